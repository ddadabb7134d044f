/- Parts of a proof: Shelf MC Fmt. -/
import Derived.Shelf.Strings.Builder1
import Derived.Shelf.Strings.Builder2
import Derived.Shelf.Small.Wraps
import Derived.Shelf.Strings.BuilderF
import Derived.Shelf.Strings.BuilderK
import Derived.Shelf.Strings.Builder2Cap
import Derived.Shelf.Strconv.Itoa0
import Derived.Shelf.Strconv.Itoa1
import Derived.Shelf.LaysM
import Derived.Shelf.Strconv.Itoa2
import Derived.Shelf.Strings.Search1
import Derived.Shelf.Strings.Search2
import Derived.Shelf.Strings.Cut
import Derived.Shelf.Strings.Shaped
import Derived.Shelf.Strings.Prefix
import Derived.Shelf.Bits.Mul64
import Derived.Shelf.Strings.Repeat
import Derived.Shelf.Strings.BuilderCap
import Derived.Test.YtjekapjbigfkbaaGreatDoorProg
import Derived.Test.YtjekapjbigfkbaaGreatDoorS03
import Derived.Deep.QuietTactic
import Derived.BigQuiet
import Derived.Test.YtjekapjbigfkbaaGreatDoorS00
import Derived.Lib.ItoaMem
import Derived.Lib.AppendIntMem
import Derived.BigCall
import Derived.BigGuard
namespace Go.Proofs
open Go.Shelf
def Tryz.lays169_ren : Go.Shelf.Ren := ⟨fun | 169 => 189 | n => n, fun | 70 => 198 | 9 => 9 | 0 => 0 | 72 => 200 | 37 => 191 | 127 => 223 | 3 => 3 | 5 => 5 | n => n, fun | n => n⟩
theorem Tryz.lays169 : Go.Proofs.Lays.n169 Tryz.prog Tryz.lays169_ren := {
  mixed := by kernel_rfl
  f169 := Tryz.func189.trans (congrArg some (by kernel_rfl))
  t0 := Tryz.underlying0
  a0 := Tryz.isAgg0
  z0 := Tryz.sizeOf0
  v0 := Tryz.zeroValue0
  t3 := Tryz.underlying3
  a3 := Tryz.isAgg3
  z3 := Tryz.sizeOf3
  v3 := Tryz.zeroValue3
  t9 := Tryz.underlying9
  a9 := Tryz.isAgg9
  z9 := Tryz.sizeOf9
  v9 := Tryz.zeroValue9
  t37 := Tryz.underlying191
  a37 := Tryz.isAgg191
  z37 := Tryz.sizeOf191
  v37 := Tryz.zeroValue191
  t70 := Tryz.underlying198
  a70 := Tryz.isAgg198
  z70 := Tryz.sizeOf198
  v70 := Tryz.zeroValue198
  t72 := Tryz.underlying200
  a72 := Tryz.isAgg200
  z72 := Tryz.sizeOf200
  v72 := Tryz.zeroValue200
  t127 := Tryz.underlying223
  a127 := Tryz.isAgg223
  z127 := Tryz.sizeOf223
  v127 := Tryz.zeroValue223 }
theorem Tryz.Builder_Extra_169 : Builder.Extra Tryz.prog Tryz.lays169_ren := {
  sizeBuilder := by kernel_rfl
  liesBuilder := by kernel_rfl
  t5 := Tryz.underlying5
  a5 := Tryz.isAgg5
  z5 := Tryz.sizeOf5
  v5 := Tryz.zeroValue5
  infoByte := by kernel_rfl
  cellsByte := by kernel_rfl
  sizeByte := by kernel_rfl
  neB5 := by decide }
open Go.RowKit in
theorem Tryz.Builder_String_any (B b : Nat) (l : List UInt8) (w : World) (h : Lib.IsBuilder 200 5 B b (Lib.byteCells l) w) (hBw : B ≤ w.heap.size) :
    Calls Tryz.prog 189 #[.pointer (some ⟨b, 0, none⟩)] w fun e w' => e = .returned (.string ⟨l.toArray⟩) ∧ Below B w w' := Any.Builder_String_any Tryz.lays169 Tryz.Builder_Extra_169 B b l w h hBw
def Tryz.lays103_ren : Go.Shelf.Ren := ⟨fun | 103 => 132 | 210 => 168 | 206 => 201 | n => n, fun | 9 => 9 | 4 => 4 | 24 => 161 | 3 => 3 | n => n, fun | n => n⟩
theorem Tryz.lays103 : Go.Proofs.Lays.n103 Tryz.prog Tryz.lays103_ren := {
  mixed := by kernel_rfl
  f103 := Tryz.func132.trans (congrArg some (by kernel_rfl))
  f206 := Tryz.func201.trans (congrArg some (by kernel_rfl))
  f210 := Tryz.func168.trans (congrArg some (by kernel_rfl))
  t3 := Tryz.underlying3
  a3 := Tryz.isAgg3
  z3 := Tryz.sizeOf3
  v3 := Tryz.zeroValue3
  t4 := Tryz.underlying4
  a4 := Tryz.isAgg4
  z4 := Tryz.sizeOf4
  v4 := Tryz.zeroValue4
  t9 := Tryz.underlying9
  a9 := Tryz.isAgg9
  z9 := Tryz.sizeOf9
  v9 := Tryz.zeroValue9
  t24 := Tryz.underlying161
  a24 := Tryz.isAgg161
  z24 := Tryz.sizeOf161
  v24 := Tryz.zeroValue161 }
open Go.RowKit in
theorem Tryz.strings_CutPrefix (s p : ByteArray) (w : World) :
    Calls Tryz.prog 132 #[.string s, .string p] w fun e w' => e = .returned (.tuple #[.string ⟨(Lib.trimPrefix s.data.toList p.data.toList).toArray⟩, .bool (Lib.hasPrefix s.data.toList p.data.toList)]) ∧ w' = w := Any.strings_CutPrefix Tryz.lays103 s p w
def Tryz.lays215_ren : Go.Shelf.Ren := ⟨fun | 215 => 205 | n => n, fun | 3 => 3 | 4 => 4 | n => n, fun | n => n⟩
def Tryz.lays122_ren : Go.Shelf.Ren := ⟨fun | 122 => 184 | 215 => 205 | n => n, fun | 3 => 3 | 4 => 4 | n => n, fun | n => n⟩
theorem Tryz.lays122 : Go.Proofs.Lays.n122 Tryz.prog Tryz.lays122_ren := {
  mixed := by kernel_rfl
  f122 := Tryz.func184.trans (congrArg some (by kernel_rfl))
  f215 := Tryz.func205.trans (congrArg some (by kernel_rfl))
  t3 := Tryz.underlying3
  a3 := Tryz.isAgg3
  z3 := Tryz.sizeOf3
  v3 := Tryz.zeroValue3
  t4 := Tryz.underlying4
  a4 := Tryz.isAgg4
  z4 := Tryz.sizeOf4
  v4 := Tryz.zeroValue4 }
open Go.RowKit in
theorem Tryz.cmp_Compare_int (x y : Int) (w : World) :
    Calls Tryz.prog 184 #[.int .i64 x, .int .i64 y] w fun e w' => e = .returned (.int .i64 (Lib.compareInt x y)) ∧ w' = w := Any.cmp_Compare_int Tryz.lays122 x y w
def Tryz.lays283_ren : Go.Shelf.Ren := ⟨fun | 283 => 224 | n => n, fun | 3 => 3 | 9 => 9 | 4 => 4 | n => n, fun | n => n⟩
theorem Tryz.lays283 : Go.Proofs.Lays.n283 Tryz.prog Tryz.lays283_ren := {
  mixed := by kernel_rfl
  f283 := Tryz.func224.trans (congrArg some (by kernel_rfl))
  t3 := Tryz.underlying3
  a3 := Tryz.isAgg3
  z3 := Tryz.sizeOf3
  v3 := Tryz.zeroValue3
  t4 := Tryz.underlying4
  a4 := Tryz.isAgg4
  z4 := Tryz.sizeOf4
  v4 := Tryz.zeroValue4
  t9 := Tryz.underlying9
  a9 := Tryz.isAgg9
  z9 := Tryz.sizeOf9
  v9 := Tryz.zeroValue9 }
open Go.Lib in
theorem Tryz.internal_strconv_small (i : Nat) (h : i < 100) (w : World) :
    Calls Tryz.prog 224 #[.int .i64 i] w fun e w' => e = .returned (.string ⟨(Lib.decDigits i).toArray⟩) ∧ w' = w := Any.internal_strconv_small Tryz.lays283 i h w
def Tryz.laysM284_ren : Go.Shelf.Ren := ⟨fun | 284 => 225 | 129 => 235 | 317 => 234 | 318 => 236 | n => n, fun | 53 => 153 | 3 => 3 | 212 => 234 | 0 => 0 | 4 => 4 | 46 => 95 | 5 => 5 | 9 => 9 | n => n, fun | 17 => 1 | n => n⟩
theorem Tryz.laysM284 : Go.Proofs.LaysM.n284 Tryz.prog Tryz.laysM284_ren := {
  mixed := by kernel_rfl
  f129 := Tryz.func235.trans (congrArg some (by kernel_rfl))
  f284 := Tryz.func225.trans (congrArg some (by kernel_rfl))
  f317 := Tryz.func234.trans (congrArg some (by kernel_rfl))
  f318 := Tryz.func236.trans (congrArg some (by kernel_rfl))
  t0 := Tryz.underlying0
  a0 := Tryz.isAgg0
  z0 := Tryz.sizeOf0
  v0 := Tryz.zeroValue0
  t3 := Tryz.underlying3
  a3 := Tryz.isAgg3
  z3 := Tryz.sizeOf3
  v3 := Tryz.zeroValue3
  t4 := Tryz.underlying4
  a4 := Tryz.isAgg4
  z4 := Tryz.sizeOf4
  v4 := Tryz.zeroValue4
  t5 := Tryz.underlying5
  a5 := Tryz.isAgg5
  z5 := Tryz.sizeOf5
  v5 := Tryz.zeroValue5
  t9 := Tryz.underlying9
  a9 := Tryz.isAgg9
  z9 := Tryz.sizeOf9
  v9 := Tryz.zeroValue9
  t46 := Tryz.underlying95
  a46 := Tryz.isAgg95
  z46 := Tryz.sizeOf95
  v46 := Tryz.zeroValue95
  t53 := Tryz.underlying153
  a53 := Tryz.isAgg153
  z53 := Tryz.sizeOf153
  v53 := Tryz.zeroValue153
  t212 := Tryz.underlying234
  a212 := Tryz.isAgg234
  z212 := Tryz.sizeOf234
  v212 := Tryz.zeroValue234
  g17 := by kernel_rfl
  i0 := by kernel_rfl
  i3 := by kernel_rfl
  i4 := by kernel_rfl
  i5 := by kernel_rfl
  i9 := by kernel_rfl
  i46 := by kernel_rfl
  i53 := by kernel_rfl
  i212 := by kernel_rfl
  m17 := by kernel_rfl }
open Go.Lib in
theorem Tryz.internal_strconv_numDigits (u : Nat) (h1 : 1 ≤ u) (h2 : u < 18446744073709551616) (w : World) (htab : Lib.TabIs Tryz.prog w "internal/strconv.uint64pow10" .u64 Lib.pow10Tab) :
    Calls Tryz.prog 225 #[.int .u64 u] w fun e w' => e = .returned (.int .i64 (Lib.nDigits u)) ∧ w' = w := Any.internal_strconv_numDigits Tryz.laysM284 u h1 h2 w htab
def Tryz.lays285_ren : Go.Shelf.Ren := ⟨fun | 285 => 226 | n => n, fun | 37 => 191 | 53 => 153 | 3 => 3 | 4 => 4 | 51 => 209 | 9 => 9 | 5 => 5 | 0 => 0 | n => n, fun | n => n⟩
theorem Tryz.lays285 : Go.Proofs.Lays.n285 Tryz.prog Tryz.lays285_ren := {
  mixed := by kernel_rfl
  f285 := Tryz.func226.trans (congrArg some (by kernel_rfl))
  t0 := Tryz.underlying0
  a0 := Tryz.isAgg0
  z0 := Tryz.sizeOf0
  v0 := Tryz.zeroValue0
  t3 := Tryz.underlying3
  a3 := Tryz.isAgg3
  z3 := Tryz.sizeOf3
  v3 := Tryz.zeroValue3
  t4 := Tryz.underlying4
  a4 := Tryz.isAgg4
  z4 := Tryz.sizeOf4
  v4 := Tryz.zeroValue4
  t5 := Tryz.underlying5
  a5 := Tryz.isAgg5
  z5 := Tryz.sizeOf5
  v5 := Tryz.zeroValue5
  t9 := Tryz.underlying9
  a9 := Tryz.isAgg9
  z9 := Tryz.sizeOf9
  v9 := Tryz.zeroValue9
  t37 := Tryz.underlying191
  a37 := Tryz.isAgg191
  z37 := Tryz.sizeOf191
  v37 := Tryz.zeroValue191
  t51 := Tryz.underlying209
  a51 := Tryz.isAgg209
  z51 := Tryz.sizeOf209
  v51 := Tryz.zeroValue209
  t53 := Tryz.underlying153
  a53 := Tryz.isAgg153
  z53 := Tryz.sizeOf153
  v53 := Tryz.zeroValue153 }
open Go.RowKit Go.Sort Go.Lib in
theorem Tryz.internal_strconv_formatBase10 (blk off cap : Nat) (u : Nat) (d : Array UInt8) (w : World) (hH : Holds (fun (b : UInt8) => Value.int .u8 (b.toNat : Int)) w blk off d) (hu : u < 10 ^ d.size) (hu64 : u < 18446744073709551616) (hsz : d.size < 4611686018427387904) :
    Calls Tryz.prog 226 #[.slice (some ⟨blk, off, none⟩) d.size cap, .int .u64 u] w fun e w' =>
      e = .returned (.tuple #[]) ∧ ∃ (n v' : Nat) (dk : Array UInt8), w' = (putRow (fun (b : UInt8) => Value.int .u8 (b.toNat : Int)) w blk off dk).drewN n ∧ FmtInv d.size u 0 v' dk := Any.internal_strconv_formatBase10 Tryz.lays285 blk off cap u d w hH hu hu64 hsz
def Tryz.lays217_ren : Go.Shelf.Ren := ⟨fun | 217 => 218 | 266 => 231 | n => n, fun | 9 => 9 | 5 => 5 | 3 => 3 | n => n, fun | n => n⟩
theorem Tryz.lays217 : Go.Proofs.Lays.n217 Tryz.prog Tryz.lays217_ren := {
  mixed := by kernel_rfl
  f217 := Tryz.func218.trans (congrArg some (by kernel_rfl))
  f266 := Tryz.func231.trans (congrArg some (by kernel_rfl))
  t3 := Tryz.underlying3
  a3 := Tryz.isAgg3
  z3 := Tryz.sizeOf3
  v3 := Tryz.zeroValue3
  t5 := Tryz.underlying5
  a5 := Tryz.isAgg5
  z5 := Tryz.sizeOf5
  v5 := Tryz.zeroValue5
  t9 := Tryz.underlying9
  a9 := Tryz.isAgg9
  z9 := Tryz.sizeOf9
  v9 := Tryz.zeroValue9 }
open Go.RowKit Go.Lib in
theorem Tryz.stringslite_IndexByte (s : ByteArray) (c : Int) (w : World) :
    Calls Tryz.prog 218 #[.string s, .int .u8 c] w fun e w' => e = .returned (.int .i64 (Lib.indexByte s.data.toList c.toNat.toUInt8)) ∧ w' = w := Any.stringslite_IndexByte Tryz.lays217 s c w
def Tryz.lays105_ren : Go.Shelf.Ren := ⟨fun | 105 => 188 | 212 => 163 | 99 => 209 | 165 => 210 | 166 => 187 | 170 => 211 | 169 => 189 | 263 => 196 | 264 => 197 | 206 => 201 | 240 => 208 | 241 => 229 | 276 => 228 | 277 => 239 | n => n, fun | 9 => 9 | 3 => 3 | 4 => 4 | 20 => 20 | 0 => 0 | 46 => 95 | 109 => 181 | 5 => 5 | 72 => 200 | 76 => 204 | 51 => 209 | 146 => 210 | 53 => 153 | 148 => 212 | 70 => 198 | 37 => 191 | 75 => 203 | 127 => 223 | 164 => 230 | 80 => 175 | n => n, fun | n => n⟩
theorem Tryz.lays105 : Go.Proofs.Lays.n105 Tryz.prog Tryz.lays105_ren := {
  mixed := by kernel_rfl
  f99 := Tryz.func209.trans (congrArg some (by kernel_rfl))
  f105 := Tryz.func188.trans (congrArg some (by kernel_rfl))
  f165 := Tryz.func210.trans (congrArg some (by kernel_rfl))
  f166 := Tryz.func187.trans (congrArg some (by kernel_rfl))
  f169 := Tryz.func189.trans (congrArg some (by kernel_rfl))
  f170 := Tryz.func211.trans (congrArg some (by kernel_rfl))
  f206 := Tryz.func201.trans (congrArg some (by kernel_rfl))
  f212 := Tryz.func163.trans (congrArg some (by kernel_rfl))
  f240 := Tryz.func208.trans (congrArg some (by kernel_rfl))
  f241 := Tryz.func229.trans (congrArg some (by kernel_rfl))
  f263 := Tryz.func196.trans (congrArg some (by kernel_rfl))
  f264 := Tryz.func197.trans (congrArg some (by kernel_rfl))
  f276 := Tryz.func228.trans (congrArg some (by kernel_rfl))
  f277 := Tryz.func239.trans (congrArg some (by kernel_rfl))
  t0 := Tryz.underlying0
  a0 := Tryz.isAgg0
  z0 := Tryz.sizeOf0
  v0 := Tryz.zeroValue0
  t3 := Tryz.underlying3
  a3 := Tryz.isAgg3
  z3 := Tryz.sizeOf3
  v3 := Tryz.zeroValue3
  t4 := Tryz.underlying4
  a4 := Tryz.isAgg4
  z4 := Tryz.sizeOf4
  v4 := Tryz.zeroValue4
  t5 := Tryz.underlying5
  a5 := Tryz.isAgg5
  z5 := Tryz.sizeOf5
  v5 := Tryz.zeroValue5
  t9 := Tryz.underlying9
  a9 := Tryz.isAgg9
  z9 := Tryz.sizeOf9
  v9 := Tryz.zeroValue9
  t20 := Tryz.underlying20
  a20 := Tryz.isAgg20
  z20 := Tryz.sizeOf20
  v20 := Tryz.zeroValue20
  t37 := Tryz.underlying191
  a37 := Tryz.isAgg191
  z37 := Tryz.sizeOf191
  v37 := Tryz.zeroValue191
  t46 := Tryz.underlying95
  a46 := Tryz.isAgg95
  z46 := Tryz.sizeOf95
  v46 := Tryz.zeroValue95
  t51 := Tryz.underlying209
  a51 := Tryz.isAgg209
  z51 := Tryz.sizeOf209
  v51 := Tryz.zeroValue209
  t53 := Tryz.underlying153
  a53 := Tryz.isAgg153
  z53 := Tryz.sizeOf153
  v53 := Tryz.zeroValue153
  t70 := Tryz.underlying198
  a70 := Tryz.isAgg198
  z70 := Tryz.sizeOf198
  v70 := Tryz.zeroValue198
  t72 := Tryz.underlying200
  a72 := Tryz.isAgg200
  z72 := Tryz.sizeOf200
  v72 := Tryz.zeroValue200
  t75 := Tryz.underlying203
  a75 := Tryz.isAgg203
  z75 := Tryz.sizeOf203
  v75 := Tryz.zeroValue203
  t76 := Tryz.underlying204
  a76 := Tryz.isAgg204
  z76 := Tryz.sizeOf204
  v76 := Tryz.zeroValue204
  t109 := Tryz.underlying181
  a109 := Tryz.isAgg181
  z109 := Tryz.sizeOf181
  v109 := Tryz.zeroValue181
  t127 := Tryz.underlying223
  a127 := Tryz.isAgg223
  z127 := Tryz.sizeOf223
  v127 := Tryz.zeroValue223
  t146 := Tryz.underlying210
  a146 := Tryz.isAgg210
  z146 := Tryz.sizeOf210
  v146 := Tryz.zeroValue210
  t148 := Tryz.underlying212
  a148 := Tryz.isAgg212
  z148 := Tryz.sizeOf212
  v148 := Tryz.zeroValue212
  t164 := Tryz.underlying230
  a164 := Tryz.isAgg230
  z164 := Tryz.sizeOf230
  v164 := Tryz.zeroValue230 }
theorem Tryz.Builder_Extra_105 : Builder.Extra Tryz.prog Tryz.lays105_ren := {
  sizeBuilder := by kernel_rfl
  liesBuilder := by kernel_rfl
  t5 := Tryz.underlying5
  a5 := Tryz.isAgg5
  z5 := Tryz.sizeOf5
  v5 := Tryz.zeroValue5
  infoByte := by kernel_rfl
  cellsByte := by kernel_rfl
  sizeByte := by kernel_rfl
  neB5 := by decide }
open Go.RowKit Go.Lib in
theorem Tryz.strings_Repeat (s : ByteArray) (c : Nat) (w : World) (hc : c ≤ 9223372036854775807) (hlen : s.size * c ≤ 140737488355328) :
    Calls Tryz.prog 188 #[.string s, .int .i64 c] w fun e w' => e = .returned (.string ⟨(Lib.repeatL s.data.toList c).toArray⟩) ∧ Below w.heap.size w w' := Any.strings_Repeat Tryz.lays105 Tryz.Builder_Extra_105 s c w hc hlen
open Go.RowKit Go.Lib in
theorem Tryz.lays166 : Go.Proofs.Lays.n166 Tryz.prog Tryz.lays105_ren := { Tryz.lays105 with }
open Go.RowKit in
theorem Tryz.Builder_WriteString (B b : Nat) (bs : List Value) (s : ByteArray) (w : World) (h : Lib.IsBuilder 200 5 B b bs w) (hlen : bs.length + s.size ≤ 140737488355328) (hBw : B ≤ w.heap.size) :
    Calls Tryz.prog 187 #[.pointer (some ⟨b, 0, none⟩), .string s] w fun e w' => e = .returned (.tuple #[.int .i64 s.size, .nilIface]) ∧ (Lib.BuilderAt 200 5 B b (.pointer (some ⟨b, 0, none⟩)) (bs ++ Lib.strCells s) w' ∧ Below B w w') :=
  Any.Builder_WriteString Tryz.lays166 Tryz.Builder_Extra_105 B b bs s w h hlen hBw
end Go.Proofs

namespace Go.Proofs.YtjekapjbigfkbaaGreatDoor
open Go Go.RowKit
set_option maxRecDepth 100000
def cmpN (m n : Nat) : Int := if m < n then -1 else if n < m then 1 else 0
theorem cmpN_lt {m n : Nat} (h : m < n) : cmpN m n = -1 := by unfold cmpN; rw [if_pos h]
theorem cmpN_gt {m n : Nat} (h : n < m) : cmpN m n = 1 := by unfold cmpN; rw [if_neg (by omega), if_pos h]
theorem cmpN_eq {m n : Nat} (h : m = n) : cmpN m n = 0 := by unfold cmpN; rw [if_neg (by omega), if_neg (by omega)]
theorem isnan_u64 (x : Int) (w : World) : Calls Tryz.prog 206 #[.int .u64 x] w fun e w' => e = .returned (.bool false) ∧ w = w' := by
  have h : (x != x) = false := by simp
  go_enter Tryz.func206, Tryz.ntmps206
  go_wp2
  go_ret
  exact ⟨rfl, rfl⟩
theorem cmp_u64 (x y : Nat) (w : World) : Calls Tryz.prog 185 #[.int .u64 (x : Int), .int .u64 (y : Int)] w fun e w' => e = .returned (.int .i64 (cmpN x y)) ∧ w = w' := by
  rcases Nat.lt_trichotomy x y with h | h | h
  · have h1 := cmpN_lt h
    have H1 := Lib.hid h1; clear h1
    go_enter Tryz.func185, Tryz.ntmps185
    go_wp2_with (go_at_call 206; refine (isnan_u64 _ _).mono ?_; rintro e w' ⟨rfl, rfl⟩)
    go_ret
    exact ⟨ret_int H1.out.symm, rfl⟩
  · subst h
    have h1 := cmpN_eq (rfl : x = x)
    have H1 := Lib.hid h1; clear h1
    go_enter Tryz.func185, Tryz.ntmps185
    go_wp2_with (go_at_call 206; refine (isnan_u64 _ _).mono ?_; rintro e w' ⟨rfl, rfl⟩)
    go_ret
    exact ⟨ret_int H1.out.symm, rfl⟩
  · have h1 := cmpN_gt h
    have H1 := Lib.hid h1; clear h1
    go_enter Tryz.func185, Tryz.ntmps185
    go_wp2_with (go_at_call 206; refine (isnan_u64 _ _).mono ?_; rintro e w' ⟨rfl, rfl⟩)
    go_ret
    exact ⟨ret_int H1.out.symm, rfl⟩
theorem nth_drop (xs : List Nat) (k i : Nat) : nth (xs.drop k) i = nth xs (k + i) := by simp [nth, List.getD_eq_getElem?_getD]
theorem bval_split (xs : List Nat) (j : Nat) : bval xs = bval (xs.take j) + BB ^ j * nth xs j + BB ^ (j + 1) * bval (xs.drop (j + 1)) := by
  rw [← bval_take_succ]
  by_cases h : j + 1 ≤ xs.length
  · have := bval_append (xs.take (j + 1)) (xs.drop (j + 1))
    rw [List.take_append_drop, List.length_take, Nat.min_eq_left h] at this
    exact this
  · rw [List.take_of_length_le (by omega), List.drop_of_length_le (by omega)]; simp [bval]
theorem list_ext_nth {xs ys : List Nat} (hl : xs.length = ys.length) (h : ∀ j, j < xs.length → nth xs j = nth ys j) : xs = ys := by
  apply List.ext_getElem hl
  intro i h1 h2
  have := h i h1
  rw [nth_get xs i h1, nth_get ys i h2] at this
  exact this
theorem bval_lt_of {xs ys : List Nat} (hx : Small xs) (hl : xs.length = ys.length) (j : Nat) (he : ∀ i, j < i → i < xs.length → nth xs i = nth ys i) (hlt : nth xs j < nth ys j) : bval xs < bval ys := by
  rw [bval_split xs j, bval_split ys j]
  have e : xs.drop (j + 1) = ys.drop (j + 1) := list_ext_nth (by simp [hl]) (fun i hi => by
    rw [nth_drop, nth_drop]; rw [List.length_drop] at hi; exact he _ (by omega) (by omega))
  rw [e]
  have h1 : bval (xs.take j) < BB ^ j := Nat.lt_of_lt_of_le (bval_lt (small_take hx j)) (Nat.pow_le_pow_right BB_pos (by rw [List.length_take]; omega))
  have h2 : BB ^ j * (nth xs j + 1) ≤ BB ^ j * nth ys j := Nat.mul_le_mul_left _ hlt
  rw [Nat.mul_add] at h2
  omega
theorem lt_of_len {m n : Nat} (h : (toB m).length < (toB n).length) : m < n := by
  rcases Nat.lt_or_ge m n with h1 | h1
  · exact h1
  · have := toB_len_mono h1; omega
def CmpEnd (m n : Nat) (w : World) (e : Ending) (w' : World) : Prop := e = .returned (.int .i64 (cmpN m n)) ∧ Below w.heap.size w w'
theorem cmpint (x y : Nat) (w : World) : Calls Tryz.prog 184 #[.int .i64 (x : Int), .int .i64 (y : Int)] w fun e w' => e = .returned (.int .i64 (cmpN x y)) ∧ w = w' := by
  refine (Tryz.cmp_Compare_int x y w).mono fun e w' h => ⟨?_, h.2.symm⟩
  rw [h.1]
  apply ret_int
  unfold Lib.compareInt cmpN
  repeat' split
  all_goals first | rfl | omega
set_option maxHeartbeats 1000000 in
theorem compare_any (vx vy : Value) (m n : Nat) (w : World) (hx : Sl w .u64 vx (toB m)) (hy : Sl w .u64 vy (toB n)) :
    Calls Tryz.prog 150 #[vx, vy] w (CmpEnd m n w) := by
  obtain ⟨ax, cx, bx, ox, rfl, hax, hcx1, hcx2, hbx, hcellx⟩ := hx.open
  obtain ⟨ay, cy, by', oy, rfl, hay, hcy1, hcy2, hby, hcelly⟩ := hy.open
  unfold maxLen at hcx2 hcy2
  clear hx hy
  by_cases hl : (toB m).length = (toB n).length
  · have hne : (((toB m).length : Int) != ((toB n).length : Int)) = false := by rw [hl]; simp
    go_enter Tryz.func150, Tryz.ntmps150
    have HL := Lib.hid hl; clear hl
    go_wp2
    clear hne
    go_loopw [19] (fun i wr => ∃ k : Nat, k ≤ (toB m).length ∧ i = .int .i64 k ∧ (∀ j, (toB m).length - 1 - k < j → j < (toB m).length → nth (toB m) j = nth (toB n) j) ∧ (k = (toB m).length → 0 < k → nth (toB m) 0 = nth (toB n) 0) ∧ Below w.heap.size w wr) (fun i _ => (toB m).length - (intOf i).toNat)
    case atStart => exact ⟨0, Nat.zero_le _, rfl, fun j h1 h2 => by omega, fun _ h => absurd h (Nat.lt_irrefl _), Below.refl _ _⟩
    case round =>
      obtain ⟨k, hk, rfl, heq, heq0, hb⟩ := hrel
      have HE := Lib.hid heq; clear heq
      have HE0 := Lib.hid heq0; clear heq0
      have HB := Lib.hid hb; clear hb
      by_cases hlt : k < (toB m).length
      · obtain rfl := hax (by omega)
        obtain rfl := hay (by have := HL.out; omega)
        have c1 := (HB.out.cell (p := ⟨bx, ox + ((toB m).length - 1 - k), none⟩) (hbx (by omega))).trans (hcellx ((toB m).length - 1 - k) (by omega))
        have c2 := (HB.out.cell (p := ⟨by', oy + ((toB m).length - 1 - k), none⟩) (hby (by have := HL.out; omega))).trans (hcelly ((toB m).length - 1 - k) (by have := HL.out; omega))
        have hlt2 : (((toB m).length : Int) - 1 - (k : Int)) < ((toB n).length : Int) := by have := HL.out; omega
        have hlt3 : 0 ≤ (((toB m).length : Int) - 1 - (k : Int)) := by omega
        clear hax hay hcellx hcelly
        rcases Nat.lt_trichotomy (nth (toB m) ((toB m).length - 1 - k)) (nth (toB n) ((toB m).length - 1 - k)) with hc | hc | hc
        · have hv := cmpN_lt hc
          have hr : cmpN m n = -1 := cmpN_lt (by
            have := bval_lt_of (small_toB m) HL.out ((toB m).length - 1 - k) (fun i h1 h2 => HE.out i h1 h2) hc
            rwa [bval_toB, bval_toB] at this)
          clear hc
          have HR := Lib.hid hr; clear hr
          have HV := Lib.hid hv; clear hv
          go_wp2_with fail
          go_quiet ((go_at_call 185; exact Calls.quiet_of_same ((cmp_u64 _ _ _).mono fun e w' h => ⟨by rw [h.1, HV.out], h.2.symm⟩)))
          go_wp2
          go_ret
          exact ⟨ret_int HR.out.symm, below_drewN HB.out _⟩
        · have hv := cmpN_eq hc
          have HC := Lib.hid hc; clear hc
          have HV := Lib.hid hv; clear hv
          go_wp2_with fail
          go_quiet ((go_at_call 185; exact Calls.quiet_of_same ((cmp_u64 _ _ _).mono fun e w' h => ⟨by rw [h.1, HV.out], h.2.symm⟩)))
          go_wp2
          go_roundw
          case rel =>
            refine ⟨k + 1, by omega, by go_num, fun j h1 h2 => ?_, fun h1 _ => ?_, below_drewN HB.out _⟩
            · by_cases e : j = (toB m).length - 1 - k
              · rw [e]; exact HC.out
              · exact HE.out j (by omega) h2
            · have := HC.out
              rwa [show (toB m).length - 1 - k = 0 by omega] at this
          case measure => simp [intOf]; omega
        · have hv := cmpN_gt hc
          have hr : cmpN m n = 1 := cmpN_gt (by
            have := bval_lt_of (small_toB n) HL.out.symm ((toB m).length - 1 - k) (fun i h1 h2 => (HE.out i h1 (by rw [HL.out]; exact h2)).symm) hc
            rwa [bval_toB, bval_toB] at this)
          clear hc
          have HR := Lib.hid hr; clear hr
          have HV := Lib.hid hv; clear hv
          go_wp2_with fail
          go_quiet ((go_at_call 185; exact Calls.quiet_of_same ((cmp_u64 _ _ _).mono fun e w' h => ⟨by rw [h.1, HV.out], h.2.symm⟩)))
          go_wp2
          go_ret
          exact ⟨ret_int HR.out.symm, below_drewN HB.out _⟩
      · go_wp2_with fail
        go_ret
        have hr : cmpN m n = 0 := cmpN_eq (by
          have e : toB m = toB n := list_ext_nth HL.out (fun j hj => by
            by_cases h0 : j = 0
            · subst h0; exact HE0.out (by omega) (by omega)
            · exact HE.out j (by omega) hj)
          rw [← bval_toB m, e, bval_toB])
        exact ⟨ret_int hr.symm, HB.out⟩
  · have hne : (((toB m).length : Int) != ((toB n).length : Int)) = true := by rw [bne_iff_ne]; omega
    have hr : cmpN (toB m).length (toB n).length = cmpN m n := by
      rcases Nat.lt_or_ge (toB m).length (toB n).length with h | h
      · rw [cmpN_lt h, cmpN_lt (lt_of_len h)]
      · rw [cmpN_gt (show (toB n).length < (toB m).length by omega), cmpN_gt (lt_of_len (by omega))]
    have HR := Lib.hid hr; clear hr
    clear hl hax hay hcellx hcelly
    go_enter Tryz.func150, Tryz.ntmps150
    go_wp2_with (go_at_call 184; refine (cmpint _ _ _).mono ?_; rintro e w' ⟨rfl, rfl⟩)
    go_ret
    exact ⟨ret_int HR.out, Below.refl _ _⟩
end Go.Proofs.YtjekapjbigfkbaaGreatDoor
namespace Go.Proofs.YtjekapjbigfkbaaGreatDoor
open Go
set_option maxRecDepth 100000
def padj : Nat → Nat → List UInt8 | 0, _ => [] | j + 1, b => padj j (b / 10) ++ [UInt8.ofNat (48 + b % 10)]
theorem dec_pad (j : Nat) : ∀ (n b : Nat), 1 ≤ n → b < 10 ^ j → dec (n * 10 ^ j + b) = dec n ++ padj j b := by
  induction j with
  | zero => intro n b _ hb; simp at hb; subst hb; simp [padj]
  | succ j ih =>
    intro n b hn hb
    have h1 : 10 ≤ n * 10 ^ (j + 1) + b := by
      have : 1 * 10 ^ (j + 1) ≤ n * 10 ^ (j + 1) := Nat.mul_le_mul_right _ hn
      have : 1 ≤ 10 ^ j := Nat.pow_pos (by omega)
      rw [Nat.pow_succ] at *; omega
    rw [dec_big (by omega)]
    have e1 : (n * 10 ^ (j + 1) + b) / 10 = n * 10 ^ j + b / 10 := by rw [Nat.pow_succ, ← Nat.mul_assoc]; omega
    have e2 : (n * 10 ^ (j + 1) + b) % 10 = b % 10 := by rw [Nat.pow_succ, ← Nat.mul_assoc]; omega
    rw [e1, e2, ih n (b / 10) hn (by rw [Nat.pow_succ] at hb; omega)]
    simp [padj]
theorem padj_zero (j : Nat) : padj j 0 = List.replicate j 48 := by
  induction j with
  | zero => rfl
  | succ j ih => simp only [padj, Nat.zero_div, Nat.zero_mod, ih]; rw [List.replicate_succ']; rfl
theorem padj_eq (j : Nat) : ∀ b, 1 ≤ j → b < 10 ^ j → padj j b = List.replicate (j - (dec b).length) 48 ++ dec b := by
  induction j with
  | zero => intro b h; omega
  | succ j ih =>
    intro b _ hb
    by_cases h : b < 10
    · simp only [padj]; rw [dec_small h, Nat.div_eq_of_lt h, padj_zero, Nat.mod_eq_of_lt h]; simp
    · have hj : 1 ≤ j := by
        rcases Nat.eq_zero_or_pos j with h0 | h0
        · subst h0; simp at hb; omega
        · exact h0
      simp only [padj]
      rw [ih (b / 10) hj (by rw [Nat.pow_succ] at hb; omega), dec_big h]
      simp
theorem dec_block {n b : Nat} (hn : 1 ≤ n) (hb : b < BB) : dec (b + BB * n) = dec n ++ (List.replicate (9 - (dec b).length) 48 ++ dec b) := by
  rw [BB_val] at *
  have h : b + 1000000000 * n = n * 10 ^ 9 + b := by omega
  rw [h, dec_pad 9 n b hn (by omega), padj_eq 9 b (by omega) (by omega)]
theorem dec_len9 {b : Nat} (hb : b < BB) : (dec b).length ≤ 9 := by rw [BB_val] at hb; exact dec_len_lt.2 ⟨by omega, by omega⟩
noncomputable def topB (n k : Nat) : List UInt8 := if k = 0 then [] else dec (bval ((toB n).drop ((toB n).length - k)))
theorem topB_zero (n : Nat) : topB n 0 = [] := rfl
theorem drop_step (xs : List Nat) (k : Nat) (hk : k < xs.length) : bval (xs.drop (xs.length - (k + 1))) = nth xs (xs.length - 1 - k) + BB * bval (xs.drop (xs.length - k)) := by
  rw [List.drop_eq_getElem_cons (by omega), show xs.length - (k + 1) + 1 = xs.length - k by omega]
  simp only [bval]
  rw [nth_get xs _ (by omega)]
  congr 2
  omega
theorem topB_one (n : Nat) (h : n ≠ 0) : topB n 1 = dec (nth (toB n) ((toB n).length - 1)) := by
  have := toB_ne h
  unfold topB
  rw [if_neg (by omega), drop_step (toB n) 0 (by omega), Nat.sub_zero, Nat.sub_zero, List.drop_length]
  simp [bval]
theorem topB_pos (n : Nat) (h : n ≠ 0) (k : Nat) (h1 : 1 ≤ k) (hk : k ≤ (toB n).length) : 1 ≤ bval ((toB n).drop ((toB n).length - k)) := by
  induction k with
  | zero => omega
  | succ k ih =>
    rw [drop_step (toB n) k hk]
    rcases Nat.eq_zero_or_pos k with h0 | h0
    · subst h0; rw [Nat.sub_zero]; have := toB_top h; omega
    · have := ih h0 (by omega)
      have : BB * 1 ≤ BB * bval ((toB n).drop ((toB n).length - k)) := Nat.mul_le_mul_left _ this
      have := BB_pos
      omega
theorem topB_succ (n : Nat) (h : n ≠ 0) (k : Nat) (h1 : 1 ≤ k) (hk : k < (toB n).length) :
    topB n (k + 1) = topB n k ++ (List.replicate (9 - (dec (nth (toB n) ((toB n).length - 1 - k))).length) 48 ++ dec (nth (toB n) ((toB n).length - 1 - k))) := by
  unfold topB
  rw [if_neg (by omega), if_neg (by omega), drop_step (toB n) k hk, dec_block (topB_pos n h k h1 (by omega)) (small_toB n _)]
theorem topB_all (n : Nat) (h : n ≠ 0) : topB n (toB n).length = dec n := by
  have := toB_ne h
  unfold topB
  rw [if_neg (by omega), Nat.sub_self, List.drop_zero, bval_toB]
theorem topB_len (n k : Nat) : (topB n k).length ≤ 9 * k := by
  unfold topB
  split
  · simp
  · have h1 : Small ((toB n).drop ((toB n).length - k)) := fun i => by rw [nth_drop]; exact small_toB n _
    have h2 := bval_lt h1
    refine dec_len_lt.2 ⟨Nat.lt_of_lt_of_le h2 ?_, by omega⟩
    rw [pow9]; exact Nat.pow_le_pow_right BB_pos (by rw [List.length_drop]; omega)
end Go.Proofs.YtjekapjbigfkbaaGreatDoor

namespace Go.Proofs.YtjekapjbigfkbaaGreatDoor
open Go Go.RowKit Go.Sort
set_option maxRecDepth 100000
def Tab (w : World) : Prop := Lib.TabIs Tryz.prog w "internal/strconv.uint64pow10" .u64 Lib.pow10Tab
theorem Tab.below {B : Nat} {w w' : World} (h : Tab w) (hb : Below B w w') (hB : w.heap.size ≤ B) : Tab w' := (Lib.tabBelow_of_tabIs h) w' (hb.mono hB)
theorem below_grow {B : Nat} {a w : World} (h : Below B a w) (os : Array Obj) (hB : B ≤ w.heap.size) : Below B a (grow w os) :=
  h.trans ⟨rfl, rfl, rfl, by simp [grow], fun k hk => by
    show (w.heap ++ os)[k]? = _
    rw [Array.getElem?_append_left (by omega)]⟩
abbrev encB : UInt8 → Value := fun b => .int .u8 (b.toNat : Int)
theorem holds_zero0 (w : World) (T : TypeId) (nd : Nat) (hs : nd ≤ 24) : Holds encB (w.alloc (.cells Lib.zeros24 T)) w.heap.size 0 (Array.replicate nd (0 : UInt8)) := fun j hj => by
  have hj' : j < nd := by simpa using hj
  refine ⟨?_, World.frozen?_alloc_new _ _ _ _⟩
  rw [World.cell?_alloc_new, Lib.zeros24_at _ (by omega), getElem!_pos _ j hj]
  simp
theorem fin_pos0 (w : World) (o : Obj) (dk : Array UInt8) (k : Nat) : ∃ os, (putRow encB (w.alloc o) w.heap.size 0 dk).drewN k = grow (w.drewN k) os := by
  rw [alloc_eq_grow]
  obtain ⟨os', _, e⟩ := putRow_grow_new encB w #[o] w.heap.size 0 dk (Nat.le_refl _)
  exact ⟨os', by rw [e]; rfl⟩
set_option maxHeartbeats 1000000 in
set_option maxRecDepth 100000 in
theorem fmt_inner (u : Nat) (h1 : u < 18446744073709551616) (w : World) (htab : Tab w) :
    Calls Tryz.prog 207 #[.int .u64 (u : Int), .int .i64 10] w fun e w' => e = .returned (.string (str (dec u))) ∧ Below w.heap.size w w' := by
  by_cases hs : u < 100
  · go_enter Tryz.func207, Tryz.ntmps207
    go_wp2_with (go_at_call 224; refine (Tryz.internal_strconv_small u hs _).mono ?_; rintro e w' ⟨rfl, rfl⟩)
    go_ret
    exact ⟨rfl, Below.refl _ _⟩
  · have hu1 : 1 ≤ u := by omega
    have hnd20 : Lib.nDigits u ≤ 20 := Lib.nDigits_le20 u h1
    have hal : Tryz.prog.arrayLen 225 = 24 := by simp [Program.arrayLen, Tryz.underlying225]
    have hsl1 : ∀ W, (Instr.sliceAt 225 (.pointer (some ⟨w.heap.size, 0, none⟩)) none (some (.int .i64 (Lib.nDigits u : Int))) none).run Tryz.prog W = .ok (.slice (some ⟨w.heap.size, 0, none⟩) (Lib.nDigits u) 24) W := fun W => by
      rw [run_sliceAt_array_h W 225 ⟨w.heap.size, 0, none⟩ (by simp [Program.arrayLen, Program.elem, Tryz.underlying225]) .i64 (Lib.nDigits u : Int) (by omega) (by rw [hal]; omega)]
      go_simp
    have hH0 := holds_zero0 w 225 (Lib.nDigits u) (by omega)
    have hfmt := Tryz.internal_strconv_formatBase10 w.heap.size 0 24 u (Array.replicate (Lib.nDigits u) 0) (w.alloc (.cells Lib.zeros24 225)) hH0 (by rw [Array.size_replicate]; exact Lib.lt_pow_nDigits u) h1 (by rw [Array.size_replicate]; omega)
    rw [Array.size_replicate] at hfmt
    have HH0 := Lib.hid hH0
    clear hH0 hal
    have HT := Lib.hid htab; clear htab
    go_enter Tryz.func207, Tryz.ntmps207
    go_wp2_with (go_at_call 225; refine (Tryz.internal_strconv_numDigits u hu1 h1 _ (Lib.tabIs_alloc HT.out _)).mono ?_; rintro e w' ⟨rfl, rfl⟩)
    refine hfmt.mono ?_
    rintro e w' ⟨rfl, k, v', dk, rfl, hF⟩
    have hcv : (convert 191 9 (.slice (some ⟨w.heap.size, 0, none⟩) (Lib.nDigits u) 24)).run Tryz.prog ((putRow encB (w.alloc (.cells Lib.zeros24 225)) w.heap.size 0 dk).drewN k) = .ok (.string ⟨(Lib.decDigits u).toArray⟩) ((putRow encB (w.alloc (.cells Lib.zeros24 225)) w.heap.size 0 dk).drewN k) := by
      have h := run_convert_bytes_back (P := Tryz.prog) ((putRow encB (w.alloc (.cells Lib.zeros24 225)) w.heap.size 0 dk).drewN k) 191 9 5 ⟨w.heap.size, 0, none⟩ 24 (Lib.decDigits u) Tryz.underlying191 Tryz.underlying5 Tryz.underlying9 (fun j hj => by
        rw [Lib.row_is_numeral hF j hj, Lib.add_plain, World.cell?_drewN]
        exact cell?_putRow encB _ w.heap.size 0 _ dk HH0.out (by rw [hF.size, Array.size_replicate]) j (by rw [hF.size]; rw [Lib.decDigits_length] at hj; exact hj))
      rw [Lib.decDigits_length] at h
      exact h
    have HF := Lib.hid hF; clear hF
    go_wp2
    go_ret
    obtain ⟨os, eo⟩ := fin_pos0 w (.cells Lib.zeros24 225) dk k
    refine ⟨rfl, ?_⟩
    have := below_grow (below_drewN (Below.refl w.heap.size w) k) os (Nat.le_refl _)
    rw [← eo] at this
    exact this
theorem fmt_any (u : Nat) (h1 : u < 18446744073709551616) (w : World) (htab : Tab w) :
    Calls Tryz.prog 186 #[.int .u64 (u : Int), .int .i64 10] w fun e w' => e = .returned (.string (str (dec u))) ∧ Below w.heap.size w w' := by
  have HT := Lib.hid htab; clear htab
  go_enter Tryz.func186, Tryz.ntmps186
  go_wp2_with fail
  refine (fmt_inner u h1 w HT.out).mono ?_
  rintro e w' ⟨rfl, hb⟩
  have HB := Lib.hid hb; clear hb
  go_wp2
  go_ret
  exact ⟨rfl, HB.out⟩
end Go.Proofs.YtjekapjbigfkbaaGreatDoor
