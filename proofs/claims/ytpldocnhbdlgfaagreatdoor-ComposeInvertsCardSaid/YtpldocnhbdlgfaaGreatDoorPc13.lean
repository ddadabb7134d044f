/- Parts. -/
import Derived.Test.YtpldocnhbdlgfaaGreatDoorPc10
namespace Go.Proofs.YtpldocnhbdlgfaaGreatDoor
set_option maxRecDepth 100000
set_option linter.all false
set_option maxHeartbeats 16000000
open Go Tryz
section
open Go.RowKit
theorem Tk(l:List UInt8):Lib.indexByte l 47=if hasS l then ((upTo l).length:Int) else -1:=by
 induction l with
 |nil=>rfl
 |cons a l ih =>
  by_cases c:a=47
  ·subst c;simp[Lib.indexByte,hasS,upTo]
  have d:hasS (a::l)=hasS l:=by simp[hasS,c]
  have g:upTo (a::l)=a::upTo l:=by simp[upTo,c]
  have h:(a==47)=false:=by rw[beq_eq_false_iff_ne];exact c
  rw[d,g,Lib.indexByte,h,ih];cases hasS l
  ·rfl
  simp only[if_true,List.length_cons,Bool.false_eq_true,if_false];rw[ifn (by rw[beq_iff_eq];omega)];omega
theorem Fx(s:ByteArray)(a b:Nat):bts (s.extract a b)=((bts s).take b).drop a:=by
 show (s.extract a b).data.toList=_;rw[ByteArray.data_extract,Array.toList_extract,List.extract_eq_take_drop];exact List.drop_take.symm
def VY{s c t d:ByteArray}{b:Bool}(h:s=c)(g:t=d):Ending.returned (.tuple #[.string s,.string t,.bool b])=.returned (.tuple #[.string c,.string d,.bool b]):=by rw[h,g]
theorem Ti(s:ByteArray)(w:World):
  Calls prog 234 #[.string s,.string ⟨#[47]⟩] w λe w'=>e=.returned (.int .i64 (Lib.indexByte (bts s) 47))/\w=w':=by
 by_cases h:s=⟨#[47]⟩
 ·subst h
  go_enter func234,ntmps234
  go_wp2;go_ret;exact⟨rfl,rfl⟩
 have d:(s.toList==[47])=false:=BQ h;have g:([47]==s.toList)=false:=by rw[Bool.beq_comm];exact d
 have c:=Tryz.stringslite_IndexByte s 47 w;replace c:=qh c;clear h
 go_enter func234,ntmps234
 go_wp2_with fail
 refine c.o.mono ?_;rintro e w'⟨rfl,rfl⟩;go_wp2;go_ret;exact⟨rfl,rfl⟩
def TA(s:ByteArray)(w:World)(m:s.size<=9223372036854775807):
  Calls prog 221 #[.string s,.string ⟨#[47]⟩] w λe w'=>e=.returned (.tuple #[.string (str (upTo (bts s))),.string (str (if hasS (bts s) then Bh (bts s) else [])),.bool (hasS (bts s))])/\Below w.heap.size w w':=by
 have d:=Ti s w;rw[Tk]at d;cases h:hasS (bts s)
 ·rw[h]at d;simp only[Bool.false_eq_true,if_false]at d;rw[GN _ h,Eg];have l:=qh d;clear d h
  go_enter func221,ntmps221
  go_wp2_with fail
  refine l.o.mono ?_;rintro e w'⟨rfl,rfl⟩;go_wp2
  go_ret3
  exact⟨rfl,blr⟩
 rw[h]at d;simp only[if_true]at d;have g:=Fa _ h;have c:=congrArg List.length g;rw[Ao,List.length_append,List.length_cons]at c;generalize hi:(upTo (bts s)).length=i at d c;have c1:(0:Int)<=(i:Int):=by omega
 have c2:(i:Int)<=(s.size:Int):=by omega
 have c3:(0:Int)<=(i:Int)+1:=by omega
 have c4:(i:Int)+1<=(s.size:Int):=by omega
 have c5:IntKind.i64.wrap ((i:Int)+1)=(i:Int)+1:=by rw[IntKind.wrap_i64];omega
 have j:s.extract 0 i=str (upTo (bts s)):=by
  apply Dh;rw[Fx,AI];conv=>lhs;rw[g]
  rw[<-hi,List.take_left,List.drop_zero]
 have k:s.extract (i+1) s.size=str (Bh (bts s)):=by
  apply Dh;rw[Fx,AI,List.take_of_length_le (by rw[Ao];omega)];conv=>lhs;rw[g]
  rw[<-hi,<-List.drop_drop,List.drop_left];rfl
 have l:=qh d;clear d h;replace j:=qh j;replace k:=qh k;clear g hi c m
 go_enter func221,ntmps221
 go_wp2_with fail
 refine l.o.mono ?_;rintro e w'⟨rfl,rfl⟩
 go_wp2_with fail
 go_quiet (fail)
 go_wp2
 go_ret3
 exact⟨VY j.o k.o,below_drewN blr _⟩
def RA(s:ByteArray)(w:World)(d:s.size<=9223372036854775807):
  Calls prog 195 #[.string s,.string ⟨#[47]⟩] w λe w'=>e=.returned (.tuple #[.string (str (upTo (bts s))),.string (str (if hasS (bts s) then Bh (bts s) else [])),.bool (hasS (bts s))])/\Below w.heap.size w w':=by
 have c:=TA s w d;generalize str (upTo (bts s))=x at c ⊢;generalize str (if hasS (bts s) then Bh (bts s) else [])=y at c ⊢
 generalize hasS (bts s)=z at c ⊢;replace c:=qh c;clear d
 go_enter func195,ntmps195
 go_wp2_with fail
 refine c.o.mono ?_;rintro e w'⟨rfl,hb⟩;replace hb:=qh hb;go_wp2
 go_ret3
 exact⟨rfl,hb.o⟩
def RF(s:ByteArray)(w:World):
  Calls prog 194 #[.string s,.string ⟨#[45]⟩] w λe w'=>e=.returned (.tuple #[.string (str (Al (bts s))),.bool (AM (bts s))])/\w=w':=by
 refine(Tryz.strings_CutPrefix s ⟨#[45]⟩ w).mono ?_;rintro e w'⟨rfl,rfl⟩;refine⟨?_,rfl⟩;have d:Lib.hasPrefix s.data.toList [45]=AM (bts s):=by
  show Lib.hasPrefix (bts s) [45]=_;cases bts s with
  |nil=>rfl
  |cons a l =>
   show ((45:UInt8)==a&&true)=(a==45);rw[Bool.and_true];exact BEq.comm
 have g:Lib.trimPrefix s.data.toList [45]=Al (bts s):=by
  show Lib.trimPrefix (bts s) [45]=_;unfold Lib.trimPrefix Al;have c:Lib.hasPrefix (bts s) [45]=AM (bts s):=d;rw[c];split
  ·cases bts s<;>rfl
  rfl
 show Ending.returned (.tuple #[.string ⟨(Lib.trimPrefix s.data.toList [45]).toArray⟩,.bool (Lib.hasPrefix s.data.toList [45])])=_;rw[d,g];rfl
def BA{fn:Func}{p u:Tmp}(h:fn.results=#[.cell p 180,.tmp u])(c:Array Value)(W:World)(n:Nat)(r:Bool)(x y:ByteArray)(o:Bool)
  (i:c.getD p undef=.pointer (some (Ad n 0))) (j:c.getD u undef=.bool o) (c0:W.cell? (Ad n 0)=some (.bool r)) (c1:W.cell? (Ad n 1)=some (.string x)) (c2:W.cell? (Ad n 2)=some (.string y)) :
  (results fn c).run prog W=.ok (.tuple #[.agg #[.bool r,.string x,.string y],.bool o]) W:=by
 have d:c[p]?.getD undef=.pointer (some (Ad n 0)):=by rw[<-i];simp
 have g:c[u]?.getD undef=.bool o:=by rw[<-j];simp
 simp only[results,h];simp[d,g,go_sem,c0,c1,c2]
theorem size49:(⟨#[49]⟩:ByteArray).size=1:=rfl
def NoNum:Value:=nvS false ⟨#[]⟩ ⟨#[]⟩
def okB(neg frac vn vd:Bool)(n d g:ByteArray):Bool:=vn&&vd&&decide (n.size<=400)&&decide (d.size<=400)&&!(neg&&(n.toList==[48]))&&!(frac&&(d.toList==[48]||d.toList==[49]))&&(g.toList==[49])
def PairQ(neg:Bool)(n d:ByteArray)(ok:Bool)(w:World)(e:Ending)(w':World):Prop:=e=.returned (.tuple #[if ok then nvS neg n d else NoNum,.bool ok])/\Below w.heap.size w w'
def Va(s r n P d g:ByteArray)(neg B F E:Bool)(w:World)
  (hd:d=if B then P else ⟨#[49]⟩) (hn:n.size<=9223372036854775807) (G:d.size<=9223372036854775807)
  (c1:∀wx,Below w.heap.size w wx->Calls prog 194 #[.string s,.string ⟨#[45]⟩] wx λe w'=>e=.returned (.tuple #[.string r,.bool neg])/\wx=w')
  (c2:∀wx,Below w.heap.size w wx->Calls prog 195 #[.string r,.string ⟨#[47]⟩] wx λe w'=>e=.returned (.tuple #[.string n,.string P,.bool B])/\Below wx.heap.size wx w')
  (c3:∀wx,Calls prog 196 #[.string n] wx λe w'=>e=.returned (.bool F)/\wx=w')
  (c4:∀wx,Calls prog 196 #[.string d] wx λe w'=>e=.returned (.bool E)/\wx=w')
  (c5:F=true->E=true->∀wx,Below w.heap.size w wx->Calls prog 197 #[.string n,.string d] wx (StrZ g wx)) :
  Calls prog 163 #[.string s] w (PairQ neg n d (okB neg B F E n d g) w):=by
 replace c1:=qh c1;replace c2:=qh c2;replace c3:=qh c3;replace c4:=qh c4;replace c5:=qh c5;have C:Below w.heap.size w (w.alloc (.cells #[.bool false,.string ⟨#[]⟩,.string ⟨#[]⟩] 180)):=blr.alloc nlr _;replace C:=qh C;replace hn:=qh hn;have I:=qh G;clear G;have H:=qh hd;clear hd;unfold PairQ NoNum nvS;obtain⟨p,h⟩:∃b,b=okB neg B F E n d g:=⟨_,rfl⟩;rw[<-h];replace h:=qh h
 go_enter func163,ntmps163
 go_wp2_with fail
 refine(c1.o _ C.o).mono ?_;rintro e U⟨rfl,rfl⟩
 go_wp2_with fail
 refine(c2.o _ C.o).mono ?_;rintro e W⟨rfl,D⟩;have i:=qh D;have c:=qh<|C.o.trans (D.mono C.o.size);clear D;cases B
 focus
  have hd:=H.o;simp only[Bool.false_eq_true,if_false]at hd;subst hd;clear I H
  go_wp2_with fail
  refine(c3.o _).mono ?_;rintro e w'⟨rfl,rfl⟩;cases F
  ·
   have hf:p=false:=by rw[h.o];first|(simp[okB, *];done)|simp[okB, *,size49]
   subst hf;obtain⟨k,k1,k2,u,z,A,j⟩:=res3 i.o
   go_wp2_with fail
   obtain⟨s0,s1,s2⟩:=set3 (a':=.bool false) (b':=.string ⟨#[]⟩) (c':=.string ⟨#[]⟩) k k1 k2;exact bodyPost_ret (BA rfl _ _ w.heap.size false ⟨#[]⟩ ⟨#[]⟩ false rfl rfl s0 s1 s2) rfl ⟨rfl,((c.o.setCell nlr _).setCell nlr _).setCell nlr _⟩
  go_wp2_with fail
  refine(c4.o _).mono ?_;rintro e w'⟨rfl,rfl⟩;cases E
  ·
   have hf:p=false:=by rw[h.o];first|(simp[okB, *];done)|simp[okB, *,size49]
   subst hf;obtain⟨k,k1,k2,u,z,A,j⟩:=res3 i.o
   go_wp2_with fail
   obtain⟨s0,s1,s2⟩:=set3 (a':=.bool false) (b':=.string ⟨#[]⟩) (c':=.string ⟨#[]⟩) k k1 k2;exact bodyPost_ret (BA rfl _ _ w.heap.size false ⟨#[]⟩ ⟨#[]⟩ false rfl rfl s0 s1 s2) rfl ⟨rfl,((c.o.setCell nlr _).setCell nlr _).setCell nlr _⟩
  by_cases R:n.size<=400
  ·have J:(n.size:Int)<=400:=by omega
   cases neg
   ·
    go_wp2_with fail
    refine(c5.o (by trivial) (by trivial) _ c.o).mono ?_;rintro e O⟨rfl,l⟩;have o:=qh<|i.o.trans (l.mono i.o.size);have m:=qh<|c.o.trans (l.mono c.o.size);clear l;cases N:(g.toList==[49])
    ·
     have hf:p=false:=by rw[h.o];first|(simp[okB, *];done)|simp[okB, *,size49]
     subst hf;obtain⟨k,k1,k2,u,z,A,j⟩:=res3 o.o
     go_wp2_with fail
     obtain⟨s0,s1,s2⟩:=set3 (a':=.bool false) (b':=.string ⟨#[]⟩) (c':=.string ⟨#[]⟩) k k1 k2;exact bodyPost_ret (BA rfl _ _ w.heap.size false ⟨#[]⟩ ⟨#[]⟩ false rfl rfl s0 s1 s2) rfl ⟨rfl,((m.o.setCell nlr _).setCell nlr _).setCell nlr _⟩
    have hf:p=true:=by rw[h.o];first|(simp[okB, *];done)|simp[okB, *,size49]
    subst hf;obtain⟨k,k1,k2,u,z,A,j⟩:=res3 o.o
    go_wp2_with fail
    obtain⟨s0,s1,s2⟩:=set3 (a':=.bool false) (b':=.string n) (c':=.string ⟨#[49]⟩) k k1 k2;exact bodyPost_ret (BA rfl _ _ w.heap.size false n ⟨#[49]⟩ true rfl rfl s0 s1 s2) rfl ⟨rfl,((m.o.setCell nlr _).setCell nlr _).setCell nlr _⟩
   cases S:(n.toList==[48])
   ·
    go_wp2_with fail
    refine(c5.o (by trivial) (by trivial) _ c.o).mono ?_;rintro e O⟨rfl,l⟩;have o:=qh<|i.o.trans (l.mono i.o.size);have m:=qh<|c.o.trans (l.mono c.o.size);clear l;cases N:(g.toList==[49])
    ·
     have hf:p=false:=by rw[h.o];first|(simp[okB, *];done)|simp[okB, *,size49]
     subst hf;obtain⟨k,k1,k2,u,z,A,j⟩:=res3 o.o
     go_wp2_with fail
     obtain⟨s0,s1,s2⟩:=set3 (a':=.bool false) (b':=.string ⟨#[]⟩) (c':=.string ⟨#[]⟩) k k1 k2;exact bodyPost_ret (BA rfl _ _ w.heap.size false ⟨#[]⟩ ⟨#[]⟩ false rfl rfl s0 s1 s2) rfl ⟨rfl,((m.o.setCell nlr _).setCell nlr _).setCell nlr _⟩
    have hf:p=true:=by rw[h.o];first|(simp[okB, *];done)|simp[okB, *,size49]
    subst hf;obtain⟨k,k1,k2,u,z,A,j⟩:=res3 o.o
    go_wp2_with fail
    obtain⟨s0,s1,s2⟩:=set3 (a':=.bool true) (b':=.string n) (c':=.string ⟨#[49]⟩) k k1 k2;exact bodyPost_ret (BA rfl _ _ w.heap.size true n ⟨#[49]⟩ true rfl rfl s0 s1 s2) rfl ⟨rfl,((m.o.setCell nlr _).setCell nlr _).setCell nlr _⟩
   have hf:p=false:=by rw[h.o];first|(simp[okB, *];done)|simp[okB, *,size49]
   subst hf;obtain⟨k,k1,k2,u,z,A,j⟩:=res3 i.o
   go_wp2_with fail
   obtain⟨s0,s1,s2⟩:=set3 (a':=.bool false) (b':=.string ⟨#[]⟩) (c':=.string ⟨#[]⟩) k k1 k2;exact bodyPost_ret (BA rfl _ _ w.heap.size false ⟨#[]⟩ ⟨#[]⟩ false rfl rfl s0 s1 s2) rfl ⟨rfl,((c.o.setCell nlr _).setCell nlr _).setCell nlr _⟩
  have J:(400:Int)<(n.size:Int):=by omega
 rotate_left
 focus
  have hd:=H.o;simp only[if_true]at hd;subst hd;clear H
  go_wp2_with fail
  refine(c3.o _).mono ?_;rintro e w'⟨rfl,rfl⟩;cases F
  ·
   have hf:p=false:=by rw[h.o];first|(simp[okB, *];done)|simp[okB, *,size49]
   subst hf;obtain⟨k,k1,k2,u,z,A,j⟩:=res3 i.o
   go_wp2_with fail
   obtain⟨s0,s1,s2⟩:=set3 (a':=.bool false) (b':=.string ⟨#[]⟩) (c':=.string ⟨#[]⟩) k k1 k2;exact bodyPost_ret (BA rfl _ _ w.heap.size false ⟨#[]⟩ ⟨#[]⟩ false rfl rfl s0 s1 s2) rfl ⟨rfl,((c.o.setCell nlr _).setCell nlr _).setCell nlr _⟩
  go_wp2_with fail
  refine(c4.o _).mono ?_;rintro e w'⟨rfl,rfl⟩;cases E
  ·
   have hf:p=false:=by rw[h.o];first|(simp[okB, *];done)|simp[okB, *,size49]
   subst hf;obtain⟨k,k1,k2,u,z,A,j⟩:=res3 i.o
   go_wp2_with fail
   obtain⟨s0,s1,s2⟩:=set3 (a':=.bool false) (b':=.string ⟨#[]⟩) (c':=.string ⟨#[]⟩) k k1 k2;exact bodyPost_ret (BA rfl _ _ w.heap.size false ⟨#[]⟩ ⟨#[]⟩ false rfl rfl s0 s1 s2) rfl ⟨rfl,((c.o.setCell nlr _).setCell nlr _).setCell nlr _⟩
  by_cases R:n.size<=400;have J:(n.size:Int)<=400:=by omega
  by_cases T:d.size<=400
  ·have Q:(d.size:Int)<=400:=by omega
   cases neg
   ·
    cases K:(d.toList==[48])
    ·cases L:(d.toList==[49])
     ·
      go_wp2_with fail
      refine(c5.o (by trivial) (by trivial) _ c.o).mono ?_;rintro e O⟨rfl,l⟩;have o:=qh<|i.o.trans (l.mono i.o.size);have m:=qh<|c.o.trans (l.mono c.o.size);clear l;cases N:(g.toList==[49])
      ·
       have hf:p=false:=by rw[h.o];first|(simp[okB, *];done)|simp[okB, *,size49]
       subst hf;obtain⟨k,k1,k2,u,z,A,j⟩:=res3 o.o
       go_wp2_with fail
       obtain⟨s0,s1,s2⟩:=set3 (a':=.bool false) (b':=.string ⟨#[]⟩) (c':=.string ⟨#[]⟩) k k1 k2;exact bodyPost_ret (BA rfl _ _ w.heap.size false ⟨#[]⟩ ⟨#[]⟩ false rfl rfl s0 s1 s2) rfl ⟨rfl,((m.o.setCell nlr _).setCell nlr _).setCell nlr _⟩
      have hf:p=true:=by rw[h.o];first|(simp[okB, *];done)|simp[okB, *,size49]
      subst hf;obtain⟨k,k1,k2,u,z,A,j⟩:=res3 o.o
      go_wp2_with fail
      obtain⟨s0,s1,s2⟩:=set3 (a':=.bool false) (b':=.string n) (c':=.string d) k k1 k2;exact bodyPost_ret (BA rfl _ _ w.heap.size false n d true rfl rfl s0 s1 s2) rfl ⟨rfl,((m.o.setCell nlr _).setCell nlr _).setCell nlr _⟩
     have hf:p=false:=by rw[h.o];first|(simp[okB, *];done)|simp[okB, *,size49]
     subst hf;obtain⟨k,k1,k2,u,z,A,j⟩:=res3 i.o
     go_wp2_with fail
     obtain⟨s0,s1,s2⟩:=set3 (a':=.bool false) (b':=.string ⟨#[]⟩) (c':=.string ⟨#[]⟩) k k1 k2;exact bodyPost_ret (BA rfl _ _ w.heap.size false ⟨#[]⟩ ⟨#[]⟩ false rfl rfl s0 s1 s2) rfl ⟨rfl,((c.o.setCell nlr _).setCell nlr _).setCell nlr _⟩
    have hf:p=false:=by rw[h.o];first|(simp[okB, *];done)|simp[okB, *,size49]
    subst hf;obtain⟨k,k1,k2,u,z,A,j⟩:=res3 i.o
    go_wp2_with fail
    obtain⟨s0,s1,s2⟩:=set3 (a':=.bool false) (b':=.string ⟨#[]⟩) (c':=.string ⟨#[]⟩) k k1 k2;exact bodyPost_ret (BA rfl _ _ w.heap.size false ⟨#[]⟩ ⟨#[]⟩ false rfl rfl s0 s1 s2) rfl ⟨rfl,((c.o.setCell nlr _).setCell nlr _).setCell nlr _⟩
   cases S:(n.toList==[48])
   ·
    cases K:(d.toList==[48])
    ·cases L:(d.toList==[49])
     ·
      go_wp2_with fail
      refine(c5.o (by trivial) (by trivial) _ c.o).mono ?_;rintro e O⟨rfl,l⟩;have o:=qh<|i.o.trans (l.mono i.o.size);have m:=qh<|c.o.trans (l.mono c.o.size);clear l;cases N:(g.toList==[49])
      ·
       have hf:p=false:=by rw[h.o];first|(simp[okB, *];done)|simp[okB, *,size49]
       subst hf;obtain⟨k,k1,k2,u,z,A,j⟩:=res3 o.o
       go_wp2_with fail
       obtain⟨s0,s1,s2⟩:=set3 (a':=.bool false) (b':=.string ⟨#[]⟩) (c':=.string ⟨#[]⟩) k k1 k2;exact bodyPost_ret (BA rfl _ _ w.heap.size false ⟨#[]⟩ ⟨#[]⟩ false rfl rfl s0 s1 s2) rfl ⟨rfl,((m.o.setCell nlr _).setCell nlr _).setCell nlr _⟩
      have hf:p=true:=by rw[h.o];first|(simp[okB, *];done)|simp[okB, *,size49]
      subst hf;obtain⟨k,k1,k2,u,z,A,j⟩:=res3 o.o
      go_wp2_with fail
      obtain⟨s0,s1,s2⟩:=set3 (a':=.bool true) (b':=.string n) (c':=.string d) k k1 k2;exact bodyPost_ret (BA rfl _ _ w.heap.size true n d true rfl rfl s0 s1 s2) rfl ⟨rfl,((m.o.setCell nlr _).setCell nlr _).setCell nlr _⟩
     have hf:p=false:=by rw[h.o];first|(simp[okB, *];done)|simp[okB, *,size49]
     subst hf;obtain⟨k,k1,k2,u,z,A,j⟩:=res3 i.o
     go_wp2_with fail
     obtain⟨s0,s1,s2⟩:=set3 (a':=.bool false) (b':=.string ⟨#[]⟩) (c':=.string ⟨#[]⟩) k k1 k2;exact bodyPost_ret (BA rfl _ _ w.heap.size false ⟨#[]⟩ ⟨#[]⟩ false rfl rfl s0 s1 s2) rfl ⟨rfl,((c.o.setCell nlr _).setCell nlr _).setCell nlr _⟩
    have hf:p=false:=by rw[h.o];first|(simp[okB, *];done)|simp[okB, *,size49]
    subst hf;obtain⟨k,k1,k2,u,z,A,j⟩:=res3 i.o
    go_wp2_with fail
    obtain⟨s0,s1,s2⟩:=set3 (a':=.bool false) (b':=.string ⟨#[]⟩) (c':=.string ⟨#[]⟩) k k1 k2;exact bodyPost_ret (BA rfl _ _ w.heap.size false ⟨#[]⟩ ⟨#[]⟩ false rfl rfl s0 s1 s2) rfl ⟨rfl,((c.o.setCell nlr _).setCell nlr _).setCell nlr _⟩
   have hf:p=false:=by rw[h.o];first|(simp[okB, *];done)|simp[okB, *,size49]
   subst hf;obtain⟨k,k1,k2,u,z,A,j⟩:=res3 i.o
   go_wp2_with fail
   obtain⟨s0,s1,s2⟩:=set3 (a':=.bool false) (b':=.string ⟨#[]⟩) (c':=.string ⟨#[]⟩) k k1 k2;exact bodyPost_ret (BA rfl _ _ w.heap.size false ⟨#[]⟩ ⟨#[]⟩ false rfl rfl s0 s1 s2) rfl ⟨rfl,((c.o.setCell nlr _).setCell nlr _).setCell nlr _⟩
  have Q:(400:Int)<(d.size:Int):=by omega
  rotate_left
  have J:(400:Int)<(n.size:Int):=by omega
 all_goals
  have hf:p=false:=by rw[h.o];first|(simp[okB, *];done)|simp[okB, *,size49]
  subst hf;obtain⟨k,k1,k2,u,z,A,j⟩:=res3 i.o
  go_wp2_with fail
  obtain⟨s0,s1,s2⟩:=set3 (a':=.bool false) (b':=.string ⟨#[]⟩) (c':=.string ⟨#[]⟩) k k1 k2;exact bodyPost_ret (BA rfl _ _ w.heap.size false ⟨#[]⟩ ⟨#[]⟩ false rfl rfl s0 s1 s2) rfl ⟨rfl,((c.o.setCell nlr _).setCell nlr _).setCell nlr _⟩
theorem str_eq{l r:List UInt8}:((str l).toList==r)=decide (l=r):=by
 rw[Lib.toList_data];show (bts (str l)==r)=_;rw[AI,Bool.eq_iff_iff];simp
def prsV(o:Option Rat):Value:=match o with|some q=>nv q|none=>NoNum
def JR(o:Option Rat):∃r x y,prsV o=.agg #[.bool r,.string x,.string y]:=by cases o<;>exact⟨_,_,_,rfl⟩
def FY(s:ByteArray)(w:World)(J:s.size<=9223372036854775807)(I:Tab w):
  Calls prog 163 #[.string s] w λe w' =>
   e=.returned (.tuple #[prsV (prs s),.bool (prs s).isSome])/\Below w.heap.size w w':=by
 have j:(Al (bts s)).length<=s.size:=by
  unfold Al;split
  ·rw[List.length_tail,Ao];omega
  rw[Ao];omega
 have H:(upTo (Al (bts s))).length<=s.size:=Nat.le_trans (List.takeWhile_sublist _).length_le j;have G:(Bh (Al (bts s))).length<=s.size:=by
  unfold Bh;rw[List.length_tail];have:=(List.dropWhile_sublist (· != 47) (l:=Al (bts s))).length_le;omega
 have D:∀c,Below w.heap.size w c->Tab c:=λc h=>I.below h nlr;have g:str (denL (Al (bts s)))=if hasS (Al (bts s)) then str (if hasS (Al (bts s)) then Bh (Al (bts s)) else []) else ⟨#[49]⟩:=by
  unfold denL;cases hasS (Al (bts s))<;>rfl
 have i:(str (denL (Al (bts s)))).size<=9223372036854775807:=by
  rw[AF];unfold denL;split
  ·omega
  show 1<=_;omega
 have E:=Va s (str (Al (bts s))) (str (upTo (Al (bts s)))) (str (if hasS (Al (bts s)) then Bh (Al (bts s)) else [])) (str (denL (Al (bts s))))
  (str (dec (Nat.gcd (num (upTo (Al (bts s)))) (num (denL (Al (bts s))))))) (AM (bts s)) (hasS (Al (bts s))) (Aq (upTo (Al (bts s)))) (Aq (denL (Al (bts s)))) w
  g (by rw[AF];omega) i (λc _=>RF s c)
  (λc _=>by
   have:=RA (str (Al (bts s))) c (by rw[AF];omega);rw[AI]at this;exact this)
  (λc=>by
   have:=Cm (str (upTo (Al (bts s)))) c (by rw[AF];unfold maxLen;omega);unfold vld at this;rw[AI]at this;exact this)
  (λc=>by
   have:=Cm (str (denL (Al (bts s)))) c (by unfold maxLen;omega);unfold vld at this;rw[AI]at this;exact this)
  (λu z c h=>by
   have o:=BV u;have p:=BV z;have B:fits (num (upTo (Al (bts s)))):=by unfold fits;rw[o];exact(Ba u).2.1
   have C:fits (num (denL (Al (bts s)))):=by unfold fits;rw[p];exact(Ba z).2.1
   have:=Nm _ _ c B C (D c h);rw[o,p]at this;exact this)
 refine E.mono ?_;rintro e w'⟨rfl,hb⟩;refine⟨?_,hb⟩;have k:okB (AM (bts s)) (hasS (Al (bts s))) (Aq (upTo (Al (bts s)))) (Aq (denL (Al (bts s)))) (str (upTo (Al (bts s)))) (str (denL (Al (bts s)))) (str (dec (Nat.gcd (num (upTo (Al (bts s)))) (num (denL (Al (bts s)))))))
   = okP (AM (bts s)) (upTo (Al (bts s))) (denL (Al (bts s))) (hasS (Al (bts s))):=by
  unfold okB okP;rw[str_eq,str_eq,str_eq,str_eq,AF,AF];have F:∀n,(decide (dec n=[49]))=decide (n=1):=λn=>by
   rw[decide_eq_decide];exact⟨λh=>Cy (h.trans Cb.symm),λh=>by rw[h,Cb]⟩
  rw[F];have hb:∀l r:List UInt8,(l==r)=decide (l=r):=λl r=>by rw[Bool.eq_iff_iff];simp
  simp only[hb]
 rw[k];cases A:okP (AM (bts s)) (upTo (Al (bts s))) (denL (Al (bts s))) (hasS (Al (bts s)))
 ·have d:prs s=none:=by unfold prs prsL;rw[A];rfl
  rw[d];rfl
 have d:prs s=some (mkRat (sg (AM (bts s)) (num (upTo (Al (bts s))))) (num (denL (Al (bts s))))):=by unfold prs prsL;rw[A];rfl
 have m:=(JQ d).2;rw[d];simp only[prsV,nv,m.sign,m.top,m.bot];rfl
end
end Go.Proofs.YtpldocnhbdlgfaaGreatDoor
