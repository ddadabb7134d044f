/- Parts. -/
import Derived.Test.YtpldocnhbdlgfaaGreatDoorPc03
import Derived.Lib.AppendIntMem
namespace Go.Proofs.YtpldocnhbdlgfaaGreatDoor
set_option maxRecDepth 100000
set_option linter.all false
set_option maxHeartbeats 16000000
open Go Tryz
section
open Go.RowKit Go.Sort
def Tab(w:World):Prop:=Lib.TabIs prog w "internal/strconv.uint64pow10" .u64 Lib.pow10Tab
def Tab.below{B:Nat}{w w':World}(h:Tab w)(hb:Below B w w')(c:w.heap.size<=B):Tab w':=(Lib.tabBelow_of_tabIs h) w' (hb.mono c)
def below_grow{B:Nat}{a w:World}(h:Below B a w)(os:Array Obj)(c:B<=w.heap.size):Below B a (grow w os) :=
 h.trans ⟨rfl,rfl,rfl,by simp[grow],λk d=>by
  show (w.heap++os)[k]?=_;rw[Array.getElem?_append_left (by omega)]⟩
abbrev encB:UInt8->Value:=λb=>.int .u8 (b.toNat:Int)
def holds_zero0(w:World)(T:TypeId)(nd:Nat)(g:nd<=24):Holds encB (w.alloc (.cells Lib.zeros24 T)) w.heap.size 0 (Array.replicate nd (0:UInt8)):=λj c=>by
 have d:j<nd:=by simpa using c
 refine⟨?_,World.frozen?_alloc_new _ _ _ _⟩;rw[World.cell?_alloc_new,Lib.zeros24_at _ (by omega),getElem!_pos _ j c];simp
def SS(w:World)(o:Obj)(d:Array UInt8)(k:Nat):∃os,(putRow encB (w.alloc o) w.heap.size 0 d).drewN k=grow (w.drewN k) os:=by
 rw[alloc_eq_grow];obtain⟨c,_,e⟩:=putRow_grow_new encB w #[o] w.heap.size 0 d nlr;exact⟨c,by rw[e];rfl⟩
set_option maxRecDepth 100000 in
theorem SY(u:Nat)(p:u<18446744073709551616)(w:World)(c:Tab w):
  Calls prog 252 #[.int .u64 (u:Int),.int .i64 10] w λe w'=>e=.returned (.string (str (dec u)))/\Below w.heap.size w w':=by
 by_cases E:u<100
 ·go_enter func252,ntmps252
  go_wp2_with (go_at_call 261;refine(Tryz.internal_strconv_small u E _).mono ?_;rintro e w'⟨rfl,rfl⟩)
  go_ret;exact⟨rfl,blr⟩
 have A:1<=u:=by omega
 have z:Lib.nDigits u<=20:=Lib.nDigits_le20 u p;have m:prog.arrayLen 248=24:=by simp[Program.arrayLen,underlying248]
 have B:∀W,(Instr.sliceAt 248 (.pointer (some (Ad w.heap.size 0))) none (some (.int .i64 (Lib.nDigits u:Int))) none).run prog W=.ok (.slice (some (Ad w.heap.size 0)) (Lib.nDigits u) 24) W:=λW=>by
  rw[run_sliceAt_array_h W 248 (Ad w.heap.size 0) (by simp[Program.arrayLen,Program.elem,underlying248]) .i64 (Lib.nDigits u:Int) (by omega) (by rw[m];omega)];go_simp
 have g:=holds_zero0 w 248 (Lib.nDigits u) (by omega);have d:=Tryz.internal_strconv_formatBase10 w.heap.size 0 24 u (Array.replicate (Lib.nDigits u) 0) (w.alloc (.cells Lib.zeros24 248)) g (by rw[Array.size_replicate];exact Lib.lt_pow_nDigits u) p (by rw[Array.size_replicate];omega);rw[Array.size_replicate]at d;have o:=qh g;clear g m;replace c:=qh c
 go_enter func252,ntmps252
 go_wp2_with (go_at_call 262;refine(Tryz.internal_strconv_numDigits u A p _ (Lib.tabIs_alloc c.o _)).mono ?_;rintro e w'⟨rfl,rfl⟩)
 refine d.mono ?_;rintro e w'⟨rfl,k,F,i,rfl,l⟩;have D:(convert 217 9 (.slice (some (Ad w.heap.size 0)) (Lib.nDigits u) 24)).run prog ((putRow encB (w.alloc (.cells Lib.zeros24 248)) w.heap.size 0 i).drewN k)=.ok (.string ⟨(Lib.decDigits u).toArray⟩) ((putRow encB (w.alloc (.cells Lib.zeros24 248)) w.heap.size 0 i).drewN k):=by
  have h:=run_convert_bytes_back (P:=prog) ((putRow encB (w.alloc (.cells Lib.zeros24 248)) w.heap.size 0 i).drewN k) 217 9 5 (Ad w.heap.size 0) 24 (Lib.decDigits u) underlying217 underlying5 underlying9 (λj s=>by
   rw[Lib.row_is_numeral l j s,Lib.add_plain,World.cell?_drewN];exact cell?_putRow encB _ w.heap.size 0 _ i o.o (by rw[l.size,Array.size_replicate]) j (by rw[l.size];rw[Lib.decDigits_length]at s;exact s))
  rw[Lib.decDigits_length]at h;exact h
 replace l:=qh l;go_wp2;go_ret;obtain⟨os,C⟩:=SS w (.cells Lib.zeros24 248) i k;refine⟨rfl,?_⟩;have:=below_grow (below_drewN (Below.refl w.heap.size w) k) os nlr;rw[<-C]at this;exact this
def SX(u:Nat)(d:u<18446744073709551616)(w:World)(c:Tab w):
  Calls prog 237 #[.int .u64 (u:Int),.int .i64 10] w λe w'=>e=.returned (.string (str (dec u)))/\Below w.heap.size w w':=by
 replace c:=qh c
 go_enter func237,ntmps237
 go_wp2_with fail
 refine(SY u d w c.o).mono ?_;rintro e w'⟨rfl,hb⟩;replace hb:=qh hb;go_wp2;go_ret;exact⟨rfl,hb.o⟩
end
section
open Go.RowKit
def GQ(s:ByteArray)(h:0<s.size):s.toList.isEmpty=false:=by
 rw[Lib.toList_data];cases c:s.data.toList with
 |nil =>
      have:s.size=0:=by rw[<-Ao,bts,c];rfl
      omega
 |cons a l=>rfl
def JA(s:ByteArray)(h:0<s.size):¬s.toList=[]:=by
 have:=GQ s h;intro e;rw[e]at this;simp at this
def UB(s:ByteArray)(h:s.size=0):s.toList=[]:=by
 rw[Lib.toList_data];exact List.length_eq_zero_iff.1 (by have:=Ao s;unfold bts at this;omega)
def Pt(c:UInt8)(h:c≠48):((c.toNat:Int)==48)=false:=by
 rw[beq_eq_false_iff_ne];intro e;apply h;apply UInt8.toNat_inj.1;show c.toNat=48;omega
def Mb{c:UInt8}(d:(48:Int)<=(c.toNat:Int))(g:(c.toNat:Int)<=57):dgt c=true:=by
 simp[dgt];omega
def LZ{c:UInt8}(d:(c.toNat:Int)<48):dgt c=false:=by simp[dgt];omega
def LY{c:UInt8}(d:(57:Int)<(c.toNat:Int)):dgt c=false:=by simp[dgt];omega
def Ye(s:ByteArray)(w:World)(l:1<=s.size)(C:s.size<=1000)(u:s.size=1\/(bts s).headD 0≠48):
  Calls prog 196 #[.string s] w λe w'=>e=.returned (.bool (dgts (bts s)))/\w=w':=by
 have p:s.toList.isEmpty=false:=GQ s l;have o:¬s.toList=[]:=JA s l;have A:0<s.size:=by omega
 have z:decide ((1000:Int)<(s.size:Int))=false:=by simp;omega
 by_cases F:s.size=1
 all_goals
  have m:1<s.size->((s[0].toNat:Int)==48)=false:=λh=>Pt _ (by
                                            rw[<-FG s A];rcases u with j|j;· omega
                                            exact j)
  try have D:=m (by omega)
  clear m
  go_enter func196,ntmps196
  go_wp2;clear o p z
  go_loop [23] (λi=>∃k:Nat,k<=s.size/\i=.int .i64 k/\dgts ((bts s).take k)=true) (λi=>s.size-(intOf i).toNat)
  case atStart=>exact⟨0,Nat.zero_le _,rfl,rfl⟩
  obtain⟨k,E,rfl,g⟩:=hrel;replace g:=qh g;by_cases c:k<s.size
  ·go_wp2
   ·have d:(57:Int)<(s[k].toNat:Int):=by omega
    go_ret;exact⟨AH (GK s k c (LY d)).symm,rfl⟩
   ·have d:(48:Int)<=(s[k].toNat:Int):=by omega
    have B:(s[k].toNat:Int)<=57:=by omega
    go_round
    case rel=>exact⟨k+1,by omega,by go_num,by rw[Fq s k c,DV,g.o,Mb d B];rfl⟩
    simp[intOf];omega
   have d:(s[k].toNat:Int)<48:=by assumption
   go_ret;exact⟨AH (GK s k c (LZ d)).symm,rfl⟩
  go_wp2;go_ret;exact⟨AH (by rw[<-g.o,List.take_of_length_le (by rw[Ao];omega)]),rfl⟩
def Yd(s:ByteArray)(w:World)(l:s.size<=maxLen):
  Calls prog 196 #[.string s] w λe w'=>e=.returned (.bool (Aq (bts s)))/\w=w':=by
 unfold maxLen at l;by_cases j:s.size=0
 ·have c:Aq (bts s)=false:=by simp[Aq,Ao,j]
  have i:=UB s j;have g:=qh c;clear c
  go_enter func196,ntmps196
  go_wp2;go_ret;exact⟨AH g.o.symm,rfl⟩
 by_cases u:1000<s.size
 ·have c:Aq (bts s)=false:=by simp[Aq,Ao];intros;omega
  have g:=qh c;clear c;have c:s.toList.isEmpty=false:=GQ s (by omega);have i:¬s.toList=[]:=JA s (by omega)
  go_enter func196,ntmps196
  go_wp2;go_ret;exact⟨AH g.o.symm,rfl⟩
 by_cases d:s.size=1\/(bts s).headD 0≠48
 ·refine(Ye s w (by omega) (by omega) d).mono λe w' ⟨k,p⟩=>⟨?_,p⟩;rw[k];have:Aq (bts s)=dgts (bts s):=by
   cases hd:dgts (bts s) with
   |false=>simp[Aq,hd]
   |true=>exact Im (by rw[Ao];omega) (by rw[Ao];omega) (by rw[Ao];exact d) hd
  rw[this]
 have c:Aq (bts s)=false:=by
  cases o:Aq (bts s) with
  |false=>rfl
  |true=>exact absurd (by have:=(Ba o).2.2.1;rw[Ao]at this;exact this) d
 have g:=qh c;clear c;have m:0<s.size:=by omega
 have c:s.toList.isEmpty=false:=GQ s (by omega);have i:¬s.toList=[]:=JA s (by omega);have A:((s[0].toNat:Int)==48)=true:=by
  have:(bts s).headD 0=48:=by
   by_cases h:(bts s).headD 0=48
   ·exact h
   exact absurd (Or.inr h) d
  rw[FG s m]at this;rw[this];rfl
 have B:1<s.size:=by
  by_cases h:s.size=1
  ·exact absurd (Or.inl h) d
  omega
 have z:decide ((1000:Int)<(s.size:Int))=false:=by simp;omega
 clear d
 go_enter func196,ntmps196
 go_wp2;go_ret;exact⟨AH g.o.symm,rfl⟩
end
end Go.Proofs.YtpldocnhbdlgfaaGreatDoor
