/- Parts. -/
import Derived.Test.YteappjogmnogcaaGreatDoorZ05
import Derived.Test.YteappjogmnogcaaGreatDoorZ03
namespace Go.Proofs.YteappjogmnogcaaGreatDoor
set_option maxRecDepth 100000
set_option linter.all false
set_option maxHeartbeats 16000000
open Go Tryz
section
open Go.RowKit
theorem SE(w:World):(Instr.typeAssert .nilIface 20 198 true).run prog w=.ok (.tuple #[.agg #[],.bool false]) w:=by kernel_rfl
theorem SD(w:World):(Instr.typeAssert (.iface 198 (.agg #[])) 20 198 true).run prog w=.ok (.tuple #[.agg #[],.bool true]) w:=by kernel_rfl
def Tf(p q:Addr)(w:World):
  CallsD prog 217 #[.pointer (some p),.pointer (some q)] .returning w λe u' w'=>e=.returned (.tuple #[])/\u'=.returning/\Below w.heap.size w w':=by
 have d:Below w.heap.size w (w.alloc (.cells #[] 198)):=blr.alloc nlr _;refine callsD_of_wpS func217 rfl λi h g=>?_;simp only[ntmps217,List.size_toArray,List.length_cons,List.length_nil,Nat.reduceAdd,Nat.reduceSub,Array.replicate_succ,
   Array.replicate_zero,List.push_toArray,List.append_toArray,List.nil_append,List.cons_append]
 apply wpS_seq
 apply wpS_region
 simp[wpOpsS,go_sem,recoverD,g,Exit.thenS,SE];refine wpS_of_wp ?_;go_wp2;refine⟨rfl,.returning,?_,.tuple #[],?_,rfl,rfl,d⟩
 ·rw[<-g]
 exact results_none rfl _ _ _
def Tg(b c:Nat)(w:World)(s:ByteArray)(n:Int)(z:w.cell? (Ad b 0)=some (.string s))(A:w.cell? (Ad c 0)=some (.int .i64 n))(F:w.frozen? (Ad b 0)=false)(G:w.frozen? (Ad c 0)=false)(hb:b<w.heap.size)(u:c<w.heap.size)(d:¬b=c):
  CallsD prog 217 #[.pointer (some (Ad b 0)),.pointer (some (Ad c 0))] (.panicking ({ v:=.iface 198 (.agg #[]),recovered:=false }::[])) w λe u' w' =>
   e=.returned (.tuple #[])/\u'=.panicking ({ v:=.iface 198 (.agg #[]),recovered:=true }::[])/\w'.cell? (Ad b 0)=some (.string ⟨#[]⟩)/\w'.cell? (Ad c 0)=some (.int .i64 2)/\
    ∀B a,Below B a w->B<=b->B<=c->Below B a w':=by
 refine callsD_of_wpS func217 rfl λE D C=>?_;simp only[ntmps217,List.size_toArray,List.length_cons,List.length_nil,Nat.reduceAdd,Nat.reduceSub,Array.replicate_succ,
   Array.replicate_zero,List.push_toArray,List.append_toArray,List.nil_append,List.cons_append]
 apply wpS_seq
 apply wpS_region
 simp[wpOpsS,go_sem,recoverD,C,Exit.thenS,SD];refine wpS_of_wp ?_;go_wp2;have i:(w.setCell (Ad b 0) (.string ⟨#[]⟩)).cell? (Ad b 0)=some (.string ⟨#[]⟩):=World.cell?_setCell_same _ _ _ z;have j:(w.setCell (Ad b 0) (.string ⟨#[]⟩)).cell? (Ad c 0)=some (.int .i64 n):=(World.cell?_setCell_other _ (Ad b 0) (Ad c 0) _ (λe=>d (by injection e))).trans A;have k:=World.cell?_setCell_same _ _ (.int .i64 2) j;have l:=(World.cell?_setCell_other _ (Ad c 0) (Ad b 0) (.int .i64 2) (λe=>d (by injection e with e _;exact e.symm))).trans i;have g:∀(x y:Value),((w.setCell (Ad b 0) x).setCell (Ad c 0) y).heap.size=w.heap.size:=λx y=>by simp
 refine⟨rfl,.panicking [{ v:=.iface 198 (.agg #[]),recovered:=true }],rfl,.tuple #[],results_none rfl _ _ _,rfl,rfl,?_,?_,?_⟩
 ·rw[World.cell?_alloc_past (hn:=by rw[g];exact hb)];exact l
 ·rw[World.cell?_alloc_past (hn:=by rw[g];exact u)];exact k
 intro B a h m o;have p:B<=w.heap.size:=by omega
 exact((h.setCell m _).setCell o _).alloc (by rw[g];exact p) _
def QU{w wk:World}{a b:Value}{t u:TypeId}(h:Below ((w.alloc (.cells #[a] t)).alloc (.cells #[b] u)).heap.size ((w.alloc (.cells #[a] t)).alloc (.cells #[b] u)) wk):
  wk.cell? (Ad w.heap.size 0)=some a/\wk.cell? (Ad (w.heap.size+1) 0)=some b/\wk.frozen? (Ad w.heap.size 0)=false/\wk.frozen? (Ad (w.heap.size+1) 0)=false/\w.heap.size+1<wk.heap.size:=by
 have g:=h.size;have e:((w.alloc (.cells #[a] t)).alloc (.cells #[b] u)).heap.size=w.heap.size+1+1:=by simp
 rw[e]at g;have c:w.heap.size<((w.alloc (.cells #[a] t)).alloc (.cells #[b] u)).heap.size:=by rw[e];omega
 have d:w.heap.size+1<((w.alloc (.cells #[a] t)).alloc (.cells #[b] u)).heap.size:=by rw[e];omega
 refine⟨?_,?_,?_,?_,by omega⟩
 ·exact(h.cell (p:=(Ad w.heap.size 0)) c).trans (by simp[go_sem])
 ·exact(h.cell (p:=(Ad (w.heap.size+1) 0)) d).trans (by simp[go_sem])
 ·exact(h.frozen (p:=(Ad w.heap.size 0)) c).trans (by simp[go_sem])
 exact(h.frozen (p:=(Ad (w.heap.size+1) 0)) d).trans (by simp[go_sem])
def Uy:∀args w,(callFunc 200 args).run prog w=.ok (.enter 200 args) w:=λargs w=>by kernel_rfl
def OR{fn:Func}{p u:Tmp}(h:fn.results=#[.cell p 9,.cell u 29])(d:Array Value)(W:World)(b c:Nat)(s:ByteArray)(n:Int)
  (j:d.getD p undef=.pointer (some (Ad b 0))) (k:d.getD u undef=.pointer (some (Ad c 0))) (c0:W.cell? (Ad b 0)=some (.string s)) (c1:W.cell? (Ad c 0)=some (.int .i64 n)) :
  (results fn d).run prog W=.ok (.tuple #[.string s,.int .i64 n]) W:=by
 have g:d[p]?.getD undef=.pointer (some (Ad b 0)):=by rw[<-j];simp
 have i:d[u]?.getD undef=.pointer (some (Ad c 0)):=by rw[<-k];simp
 simp only[results,h];simp[g,i,go_sem,c0,c1]
theorem z0g(j:Array Value)(q:Rat)(w:World)(i:∀wx,Below w.heap.size w wx->Calls prog 200 j wx (QEnd q wx)):
  Calls prog 199 #[.func (.func 200) #[] j] w (PairEnd (limR q) w):=by
 have L:∀(fn:Fn) (first cap:Array Value) (w:World),(Instr.makeFunc fn first cap).run prog w=.ok (.func fn first cap) w:=λ_ _ _ _=>rfl
 have K:=Uy;have c:Below w.heap.size w ((w.alloc (.cells #[.string ⟨#[]⟩] 9)).alloc (.cells #[.int .i64 0] 29)):=(blr.alloc nlr _).alloc (by simp) _;replace c:=qh c;replace i:=qh i;by_cases hf:fitQ q
 ·rw[CZ hf];have s:=qh hf;clear hf
  go_enter_defers func199,ntmps199
  go_wp2_with fail
  have g:=i.o _ c.o;unfold QEnd at g;rw[ifp s.o]at g;refine g.mono ?_;clear g;rintro e G⟨rfl,d⟩;have h:=qh d;clear d
  go_wp2_with fail
  refine(WL q G s.o).mono ?_;rintro e o⟨rfl,m⟩;have l:=qh<|Ag h.o m;clear m;obtain⟨B,C,E,F,k⟩:=QU l.o
  go_wp2_with fail
  have u:=World.cell?_setCell_same _ _ (.string (txt q)) B;have z:=(World.cell?_setCell_other o (Ad w.heap.size 0) (Ad (w.heap.size+1) 0) (.string (txt q)) (λe=>by injection e;omega)).trans C;have H:=World.cell?_setCell_same _ _ (.int .i64 0) z;have I:=(World.cell?_setCell_other (o.setCell (Ad w.heap.size 0) (.string (txt q))) (Ad (w.heap.size+1) 0) (Ad w.heap.size 0) (.int .i64 0) (λe=>by injection e;omega)).trans u;have A:((o.setCell (Ad w.heap.size 0) (.string (txt q))).setCell (Ad (w.heap.size+1) 0) (.int .i64 0)).heap.size=o.heap.size:=by simp
  refine leaves_cons (f:=217) (args:=#[.pointer (some (Ad w.heap.size 0)),.pointer (some (Ad (w.heap.size+1) 0))]) (by simp) (by simp[go_sem]) ?_;refine(Tf _ _ _).mono ?_;rintro e N D⟨rfl,rfl,hb⟩;refine⟨_,OR rfl _ _ w.heap.size (w.heap.size+1) (txt q) 0 rfl rfl ?_ ?_,rfl,?_⟩
  ·exact(hb.cell (p:=(Ad w.heap.size 0)) (by rw[A];show w.heap.size<_;omega)).trans I
  ·exact(hb.cell (p:=(Ad (w.heap.size+1) 0)) (by rw[A];exact k)).trans H
  have J:Below w.heap.size w o:=Ag c.o l.o;exact((J.setCell nlr _).setCell (Nat.le_succ _) _).trans (hb.mono (by rw[A];omega))
 rw[NS hf];have s:=qh hf;clear hf
 go_enter_defers func199,ntmps199
 go_wp2_with fail
 have g:=i.o _ c.o;unfold QEnd at g;rw[ifn s.o]at g;unfold PT at g;refine g.mono ?_;clear g;rintro e G⟨rfl,d⟩;have h:=qh d;clear d;obtain⟨B,C,E,F,k⟩:=QU h.o;refine leaves_cons (f:=217) (args:=#[.pointer (some (Ad w.heap.size 0)),.pointer (some (Ad (w.heap.size+1) 0))]) (by simp) (by simp[go_sem]) ?_;refine(Tg _ _ _ _ _ B C E F (by omega) k (by omega)).mono ?_;rintro e N D⟨rfl,rfl,u,z,hb⟩;exact⟨_,OR rfl _ _ w.heap.size (w.heap.size+1) ⟨#[]⟩ 2 rfl rfl u z,rfl,hb _ _ (Ag c.o h.o) nlr (Nat.le_succ _)⟩
theorem Vp(l:List UInt8):Lib.indexByte l 47=if hasS l then ((upTo l).length:Int) else -1:=by
 induction l with
 |nil=>rfl
 |cons a l ih =>
  by_cases c:a=47
  ·subst c;simp[Lib.indexByte,hasS,upTo]
  have d:hasS (a::l)=hasS l:=by simp[hasS,c]
  have g:upTo (a::l)=a::upTo l:=by simp[upTo,c]
  have h:(a==47)=false:=by rw[beq_eq_false_iff_ne];exact c
  rw[d,g,Lib.indexByte,h,ih];cases hasS l
  ·rfl
  simp only[if_true,List.length_cons,Bool.false_eq_true,if_false];rw[ifn (by rw[beq_iff_eq];omega)];omega
theorem FK(s:ByteArray)(a b:Nat):bts (s.extract a b)=((bts s).take b).drop a:=by
 show (s.extract a b).data.toList=_;rw[ByteArray.data_extract,Array.toList_extract,List.extract_eq_take_drop];exact List.drop_take.symm
def Ya{s c t d:ByteArray}{b:Bool}(h:s=c)(g:t=d):Ending.returned (.tuple #[.string s,.string t,.bool b])=.returned (.tuple #[.string c,.string d,.bool b]):=by rw[h,g]
theorem Vn(s:ByteArray)(w:World):
  Calls prog 240 #[.string s,.string ⟨#[47]⟩] w λe w'=>e=.returned (.int .i64 (Lib.indexByte (bts s) 47))/\w=w':=by
 by_cases h:s=⟨#[47]⟩
 ·subst h
  go_enter func240,ntmps240
  go_wp2;go_ret;exact⟨rfl,rfl⟩
 have d:(s.toList==[47])=false:=BU h;have g:([47]==s.toList)=false:=by rw[Bool.beq_comm];exact d
 have c:=Tryz.stringslite_IndexByte s 47 w;replace c:=qh c;clear h
 go_enter func240,ntmps240
 go_wp2_with fail
 refine c.o.mono ?_;rintro e w'⟨rfl,rfl⟩;go_wp2;go_ret;exact⟨rfl,rfl⟩
def VF(s:ByteArray)(w:World)(m:s.size<=9223372036854775807):
  Calls prog 226 #[.string s,.string ⟨#[47]⟩] w λe w'=>e=.returned (.tuple #[.string (str (upTo (bts s))),.string (str (if hasS (bts s) then Bl (bts s) else [])),.bool (hasS (bts s))])/\Below w.heap.size w w':=by
 have d:=Vn s w;rw[Vp]at d;cases h:hasS (bts s)
 ·rw[h]at d;simp only[Bool.false_eq_true,if_false]at d;rw[Hk _ h,Ej];have l:=qh d;clear d h
  go_enter func226,ntmps226
  go_wp2_with fail
  refine l.o.mono ?_;rintro e w'⟨rfl,rfl⟩;go_wp2
  go_ret3
  exact⟨rfl,blr⟩
 rw[h]at d;simp only[if_true]at d;have g:=Fc _ h;have c:=congrArg List.length g;rw[Ap,List.length_append,List.length_cons]at c;generalize hi:(upTo (bts s)).length=i at d c;have c1:(0:Int)<=(i:Int):=by omega
 have c2:(i:Int)<=(s.size:Int):=by omega
 have c3:(0:Int)<=(i:Int)+1:=by omega
 have c4:(i:Int)+1<=(s.size:Int):=by omega
 have c5:IntKind.i64.wrap ((i:Int)+1)=(i:Int)+1:=by rw[IntKind.wrap_i64];omega
 have j:s.extract 0 i=str (upTo (bts s)):=by
  apply Dm;rw[FK,AP];conv=>lhs;rw[g]
  rw[<-hi,List.take_left,List.drop_zero]
 have k:s.extract (i+1) s.size=str (Bl (bts s)):=by
  apply Dm;rw[FK,AP,List.take_of_length_le (by rw[Ap];omega)];conv=>lhs;rw[g]
  rw[<-hi,<-List.drop_drop,List.drop_left];rfl
 have l:=qh d;clear d h;replace j:=qh j;replace k:=qh k;clear g hi c m
 go_enter func226,ntmps226
 go_wp2_with fail
 refine l.o.mono ?_;rintro e w'⟨rfl,rfl⟩
 go_wp2_with fail
 go_quiet (fail)
 go_wp2
 go_ret3
 exact⟨Ya j.o k.o,below_drewN blr _⟩
def TC(s:ByteArray)(w:World)(d:s.size<=9223372036854775807):
  Calls prog 211 #[.string s,.string ⟨#[47]⟩] w λe w'=>e=.returned (.tuple #[.string (str (upTo (bts s))),.string (str (if hasS (bts s) then Bl (bts s) else [])),.bool (hasS (bts s))])/\Below w.heap.size w w':=by
 have c:=VF s w d;generalize str (upTo (bts s))=x at c ⊢;generalize str (if hasS (bts s) then Bl (bts s) else [])=y at c ⊢
 generalize hasS (bts s)=z at c ⊢;replace c:=qh c;clear d
 go_enter func211,ntmps211
 go_wp2_with fail
 refine c.o.mono ?_;rintro e w'⟨rfl,hb⟩;replace hb:=qh hb;go_wp2
 go_ret3
 exact⟨rfl,hb.o⟩
def TG(s:ByteArray)(w:World):
  Calls prog 210 #[.string s,.string ⟨#[45]⟩] w λe w'=>e=.returned (.tuple #[.string (str (Ai (bts s))),.bool (AS (bts s))])/\w=w':=by
 refine(Tryz.strings_CutPrefix s ⟨#[45]⟩ w).mono ?_;rintro e w'⟨rfl,rfl⟩;refine⟨?_,rfl⟩;have d:Lib.hasPrefix s.data.toList [45]=AS (bts s):=by
  show Lib.hasPrefix (bts s) [45]=_;cases bts s with
  |nil=>rfl
  |cons a l =>
   show ((45:UInt8)==a&&true)=(a==45);rw[Bool.and_true];exact BEq.comm
 have g:Lib.trimPrefix s.data.toList [45]=Ai (bts s):=by
  show Lib.trimPrefix (bts s) [45]=_;unfold Lib.trimPrefix Ai;have c:Lib.hasPrefix (bts s) [45]=AS (bts s):=d;rw[c];split
  ·cases bts s<;>rfl
  rfl
 show Ending.returned (.tuple #[.string ⟨(Lib.trimPrefix s.data.toList [45]).toArray⟩,.bool (Lib.hasPrefix s.data.toList [45])])=_;rw[d,g];rfl
def BG{fn:Func}{p u:Tmp}(h:fn.results=#[.cell p 189,.tmp u])(c:Array Value)(W:World)(n:Nat)(r:Bool)(x y:ByteArray)(o:Bool)
  (i:c.getD p undef=.pointer (some (Ad n 0))) (j:c.getD u undef=.bool o) (c0:W.cell? (Ad n 0)=some (.bool r)) (c1:W.cell? (Ad n 1)=some (.string x)) (c2:W.cell? (Ad n 2)=some (.string y)) :
  (results fn c).run prog W=.ok (.tuple #[.agg #[.bool r,.string x,.string y],.bool o]) W:=by
 have d:c[p]?.getD undef=.pointer (some (Ad n 0)):=by rw[<-i];simp
 have g:c[u]?.getD undef=.bool o:=by rw[<-j];simp
 simp only[results,h];simp[d,g,go_sem,c0,c1,c2]
theorem size49:(⟨#[49]⟩:ByteArray).size=1:=rfl
def NoNum:Value:=nvS false ⟨#[]⟩ ⟨#[]⟩
def okB(neg frac vn vd:Bool)(n d g:ByteArray):Bool:=vn&&vd&&decide (n.size<=400)&&decide (d.size<=400)&&!(neg&&(n.toList==[48]))&&!(frac&&(d.toList==[48]||d.toList==[49]))&&(g.toList==[49])
def PairQ(neg:Bool)(n d:ByteArray)(ok:Bool)(w:World)(e:Ending)(w':World):Prop:=e=.returned (.tuple #[if ok then nvS neg n d else NoNum,.bool ok])/\Below w.heap.size w w'
def Xj(s r n S d g:ByteArray)(neg D I H:Bool)(w:World)
  (F:d=if D then S else ⟨#[49]⟩) (hn:n.size<=9223372036854775807) (J:d.size<=9223372036854775807)
  (c1:∀wx,Below w.heap.size w wx->Calls prog 210 #[.string s,.string ⟨#[45]⟩] wx λe w'=>e=.returned (.tuple #[.string r,.bool neg])/\wx=w')
  (c2:∀wx,Below w.heap.size w wx->Calls prog 211 #[.string r,.string ⟨#[47]⟩] wx λe w'=>e=.returned (.tuple #[.string n,.string S,.bool D])/\Below wx.heap.size wx w')
  (c3:∀wx,Calls prog 204 #[.string n] wx λe w'=>e=.returned (.bool I)/\wx=w')
  (c4:∀wx,Calls prog 204 #[.string d] wx λe w'=>e=.returned (.bool H)/\wx=w')
  (c5:I=true->H=true->∀wx,Below w.heap.size w wx->Calls prog 208 #[.string n,.string d] wx (StrZ g wx)) :
  Calls prog 191 #[.string s] w (PairQ neg n d (okB neg D I H n d g) w):=by
 replace c1:=qh c1;replace c2:=qh c2;replace c3:=qh c3;replace c4:=qh c4;replace c5:=qh c5;have E:Below w.heap.size w (w.alloc (.cells #[.bool false,.string ⟨#[]⟩,.string ⟨#[]⟩] 189)):=blr.alloc nlr _;replace E:=qh E;replace hn:=qh hn;have L:=qh J;clear J;have K:=qh F;clear F;unfold PairQ NoNum nvS;obtain⟨z,h⟩:∃b,b=okB neg D I H n d g:=⟨_,rfl⟩;rw[<-h];replace h:=qh h
 go_enter func191,ntmps191
 go_wp2_with fail
 refine(c1.o _ E.o).mono ?_;rintro e Y⟨rfl,rfl⟩
 go_wp2_with fail
 refine(c2.o _ E.o).mono ?_;rintro e Z⟨rfl,G⟩;have i:=qh G;have c:=qh<|E.o.trans (G.mono E.o.size);clear G;cases D
 focus
  have F:=K.o;simp only[Bool.false_eq_true,if_false]at F;subst F;clear L K
  go_wp2_with fail
  refine(c3.o _).mono ?_;rintro e w'⟨rfl,rfl⟩;cases I
  ·
   have hf:z=false:=by rw[h.o];first|(simp[okB, *];done)|simp[okB, *,size49]
   subst hf;obtain⟨k,l,m,A,B,C,j⟩:=res3 i.o
   go_wp2_with fail
   obtain⟨s0,s1,s2⟩:=set3 (a':=.bool false) (b':=.string ⟨#[]⟩) (c':=.string ⟨#[]⟩) k l m;exact bodyPost_ret (BG rfl _ _ w.heap.size false ⟨#[]⟩ ⟨#[]⟩ false rfl rfl s0 s1 s2) rfl ⟨rfl,((c.o.setCell nlr _).setCell nlr _).setCell nlr _⟩
  go_wp2_with fail
  refine(c4.o _).mono ?_;rintro e w'⟨rfl,rfl⟩;cases H
  ·
   have hf:z=false:=by rw[h.o];first|(simp[okB, *];done)|simp[okB, *,size49]
   subst hf;obtain⟨k,l,m,A,B,C,j⟩:=res3 i.o
   go_wp2_with fail
   obtain⟨s0,s1,s2⟩:=set3 (a':=.bool false) (b':=.string ⟨#[]⟩) (c':=.string ⟨#[]⟩) k l m;exact bodyPost_ret (BG rfl _ _ w.heap.size false ⟨#[]⟩ ⟨#[]⟩ false rfl rfl s0 s1 s2) rfl ⟨rfl,((c.o.setCell nlr _).setCell nlr _).setCell nlr _⟩
  by_cases U:n.size<=400
  ·have N:(n.size:Int)<=400:=by omega
   cases neg
   ·
    go_wp2_with fail
    refine(c5.o (by trivial) (by trivial) _ c.o).mono ?_;rintro e R⟨rfl,o⟩;have u:=qh<|i.o.trans (o.mono i.o.size);have p:=qh<|c.o.trans (o.mono c.o.size);clear o;cases Q:(g.toList==[49])
    ·
     have hf:z=false:=by rw[h.o];first|(simp[okB, *];done)|simp[okB, *,size49]
     subst hf;obtain⟨k,l,m,A,B,C,j⟩:=res3 u.o
     go_wp2_with fail
     obtain⟨s0,s1,s2⟩:=set3 (a':=.bool false) (b':=.string ⟨#[]⟩) (c':=.string ⟨#[]⟩) k l m;exact bodyPost_ret (BG rfl _ _ w.heap.size false ⟨#[]⟩ ⟨#[]⟩ false rfl rfl s0 s1 s2) rfl ⟨rfl,((p.o.setCell nlr _).setCell nlr _).setCell nlr _⟩
    have hf:z=true:=by rw[h.o];first|(simp[okB, *];done)|simp[okB, *,size49]
    subst hf;obtain⟨k,l,m,A,B,C,j⟩:=res3 u.o
    go_wp2_with fail
    obtain⟨s0,s1,s2⟩:=set3 (a':=.bool false) (b':=.string n) (c':=.string ⟨#[49]⟩) k l m;exact bodyPost_ret (BG rfl _ _ w.heap.size false n ⟨#[49]⟩ true rfl rfl s0 s1 s2) rfl ⟨rfl,((p.o.setCell nlr _).setCell nlr _).setCell nlr _⟩
   cases W:(n.toList==[48])
   ·
    go_wp2_with fail
    refine(c5.o (by trivial) (by trivial) _ c.o).mono ?_;rintro e R⟨rfl,o⟩;have u:=qh<|i.o.trans (o.mono i.o.size);have p:=qh<|c.o.trans (o.mono c.o.size);clear o;cases Q:(g.toList==[49])
    ·
     have hf:z=false:=by rw[h.o];first|(simp[okB, *];done)|simp[okB, *,size49]
     subst hf;obtain⟨k,l,m,A,B,C,j⟩:=res3 u.o
     go_wp2_with fail
     obtain⟨s0,s1,s2⟩:=set3 (a':=.bool false) (b':=.string ⟨#[]⟩) (c':=.string ⟨#[]⟩) k l m;exact bodyPost_ret (BG rfl _ _ w.heap.size false ⟨#[]⟩ ⟨#[]⟩ false rfl rfl s0 s1 s2) rfl ⟨rfl,((p.o.setCell nlr _).setCell nlr _).setCell nlr _⟩
    have hf:z=true:=by rw[h.o];first|(simp[okB, *];done)|simp[okB, *,size49]
    subst hf;obtain⟨k,l,m,A,B,C,j⟩:=res3 u.o
    go_wp2_with fail
    obtain⟨s0,s1,s2⟩:=set3 (a':=.bool true) (b':=.string n) (c':=.string ⟨#[49]⟩) k l m;exact bodyPost_ret (BG rfl _ _ w.heap.size true n ⟨#[49]⟩ true rfl rfl s0 s1 s2) rfl ⟨rfl,((p.o.setCell nlr _).setCell nlr _).setCell nlr _⟩
   have hf:z=false:=by rw[h.o];first|(simp[okB, *];done)|simp[okB, *,size49]
   subst hf;obtain⟨k,l,m,A,B,C,j⟩:=res3 i.o
   go_wp2_with fail
   obtain⟨s0,s1,s2⟩:=set3 (a':=.bool false) (b':=.string ⟨#[]⟩) (c':=.string ⟨#[]⟩) k l m;exact bodyPost_ret (BG rfl _ _ w.heap.size false ⟨#[]⟩ ⟨#[]⟩ false rfl rfl s0 s1 s2) rfl ⟨rfl,((c.o.setCell nlr _).setCell nlr _).setCell nlr _⟩
  have N:(400:Int)<(n.size:Int):=by omega
 rotate_left
 focus
  have F:=K.o;simp only[if_true]at F;subst F;clear K
  go_wp2_with fail
  refine(c3.o _).mono ?_;rintro e w'⟨rfl,rfl⟩;cases I
  ·
   have hf:z=false:=by rw[h.o];first|(simp[okB, *];done)|simp[okB, *,size49]
   subst hf;obtain⟨k,l,m,A,B,C,j⟩:=res3 i.o
   go_wp2_with fail
   obtain⟨s0,s1,s2⟩:=set3 (a':=.bool false) (b':=.string ⟨#[]⟩) (c':=.string ⟨#[]⟩) k l m;exact bodyPost_ret (BG rfl _ _ w.heap.size false ⟨#[]⟩ ⟨#[]⟩ false rfl rfl s0 s1 s2) rfl ⟨rfl,((c.o.setCell nlr _).setCell nlr _).setCell nlr _⟩
  go_wp2_with fail
  refine(c4.o _).mono ?_;rintro e w'⟨rfl,rfl⟩;cases H
  ·
   have hf:z=false:=by rw[h.o];first|(simp[okB, *];done)|simp[okB, *,size49]
   subst hf;obtain⟨k,l,m,A,B,C,j⟩:=res3 i.o
   go_wp2_with fail
   obtain⟨s0,s1,s2⟩:=set3 (a':=.bool false) (b':=.string ⟨#[]⟩) (c':=.string ⟨#[]⟩) k l m;exact bodyPost_ret (BG rfl _ _ w.heap.size false ⟨#[]⟩ ⟨#[]⟩ false rfl rfl s0 s1 s2) rfl ⟨rfl,((c.o.setCell nlr _).setCell nlr _).setCell nlr _⟩
  by_cases U:n.size<=400;have N:(n.size:Int)<=400:=by omega
  by_cases X:d.size<=400
  ·have T:(d.size:Int)<=400:=by omega
   cases neg
   ·
    cases O:(d.toList==[48])
    ·cases P:(d.toList==[49])
     ·
      go_wp2_with fail
      refine(c5.o (by trivial) (by trivial) _ c.o).mono ?_;rintro e R⟨rfl,o⟩;have u:=qh<|i.o.trans (o.mono i.o.size);have p:=qh<|c.o.trans (o.mono c.o.size);clear o;cases Q:(g.toList==[49])
      ·
       have hf:z=false:=by rw[h.o];first|(simp[okB, *];done)|simp[okB, *,size49]
       subst hf;obtain⟨k,l,m,A,B,C,j⟩:=res3 u.o
       go_wp2_with fail
       obtain⟨s0,s1,s2⟩:=set3 (a':=.bool false) (b':=.string ⟨#[]⟩) (c':=.string ⟨#[]⟩) k l m;exact bodyPost_ret (BG rfl _ _ w.heap.size false ⟨#[]⟩ ⟨#[]⟩ false rfl rfl s0 s1 s2) rfl ⟨rfl,((p.o.setCell nlr _).setCell nlr _).setCell nlr _⟩
      have hf:z=true:=by rw[h.o];first|(simp[okB, *];done)|simp[okB, *,size49]
      subst hf;obtain⟨k,l,m,A,B,C,j⟩:=res3 u.o
      go_wp2_with fail
      obtain⟨s0,s1,s2⟩:=set3 (a':=.bool false) (b':=.string n) (c':=.string d) k l m;exact bodyPost_ret (BG rfl _ _ w.heap.size false n d true rfl rfl s0 s1 s2) rfl ⟨rfl,((p.o.setCell nlr _).setCell nlr _).setCell nlr _⟩
     have hf:z=false:=by rw[h.o];first|(simp[okB, *];done)|simp[okB, *,size49]
     subst hf;obtain⟨k,l,m,A,B,C,j⟩:=res3 i.o
     go_wp2_with fail
     obtain⟨s0,s1,s2⟩:=set3 (a':=.bool false) (b':=.string ⟨#[]⟩) (c':=.string ⟨#[]⟩) k l m;exact bodyPost_ret (BG rfl _ _ w.heap.size false ⟨#[]⟩ ⟨#[]⟩ false rfl rfl s0 s1 s2) rfl ⟨rfl,((c.o.setCell nlr _).setCell nlr _).setCell nlr _⟩
    have hf:z=false:=by rw[h.o];first|(simp[okB, *];done)|simp[okB, *,size49]
    subst hf;obtain⟨k,l,m,A,B,C,j⟩:=res3 i.o
    go_wp2_with fail
    obtain⟨s0,s1,s2⟩:=set3 (a':=.bool false) (b':=.string ⟨#[]⟩) (c':=.string ⟨#[]⟩) k l m;exact bodyPost_ret (BG rfl _ _ w.heap.size false ⟨#[]⟩ ⟨#[]⟩ false rfl rfl s0 s1 s2) rfl ⟨rfl,((c.o.setCell nlr _).setCell nlr _).setCell nlr _⟩
   cases W:(n.toList==[48])
   ·
    cases O:(d.toList==[48])
    ·cases P:(d.toList==[49])
     ·
      go_wp2_with fail
      refine(c5.o (by trivial) (by trivial) _ c.o).mono ?_;rintro e R⟨rfl,o⟩;have u:=qh<|i.o.trans (o.mono i.o.size);have p:=qh<|c.o.trans (o.mono c.o.size);clear o;cases Q:(g.toList==[49])
      ·
       have hf:z=false:=by rw[h.o];first|(simp[okB, *];done)|simp[okB, *,size49]
       subst hf;obtain⟨k,l,m,A,B,C,j⟩:=res3 u.o
       go_wp2_with fail
       obtain⟨s0,s1,s2⟩:=set3 (a':=.bool false) (b':=.string ⟨#[]⟩) (c':=.string ⟨#[]⟩) k l m;exact bodyPost_ret (BG rfl _ _ w.heap.size false ⟨#[]⟩ ⟨#[]⟩ false rfl rfl s0 s1 s2) rfl ⟨rfl,((p.o.setCell nlr _).setCell nlr _).setCell nlr _⟩
      have hf:z=true:=by rw[h.o];first|(simp[okB, *];done)|simp[okB, *,size49]
      subst hf;obtain⟨k,l,m,A,B,C,j⟩:=res3 u.o
      go_wp2_with fail
      obtain⟨s0,s1,s2⟩:=set3 (a':=.bool true) (b':=.string n) (c':=.string d) k l m;exact bodyPost_ret (BG rfl _ _ w.heap.size true n d true rfl rfl s0 s1 s2) rfl ⟨rfl,((p.o.setCell nlr _).setCell nlr _).setCell nlr _⟩
     have hf:z=false:=by rw[h.o];first|(simp[okB, *];done)|simp[okB, *,size49]
     subst hf;obtain⟨k,l,m,A,B,C,j⟩:=res3 i.o
     go_wp2_with fail
     obtain⟨s0,s1,s2⟩:=set3 (a':=.bool false) (b':=.string ⟨#[]⟩) (c':=.string ⟨#[]⟩) k l m;exact bodyPost_ret (BG rfl _ _ w.heap.size false ⟨#[]⟩ ⟨#[]⟩ false rfl rfl s0 s1 s2) rfl ⟨rfl,((c.o.setCell nlr _).setCell nlr _).setCell nlr _⟩
    have hf:z=false:=by rw[h.o];first|(simp[okB, *];done)|simp[okB, *,size49]
    subst hf;obtain⟨k,l,m,A,B,C,j⟩:=res3 i.o
    go_wp2_with fail
    obtain⟨s0,s1,s2⟩:=set3 (a':=.bool false) (b':=.string ⟨#[]⟩) (c':=.string ⟨#[]⟩) k l m;exact bodyPost_ret (BG rfl _ _ w.heap.size false ⟨#[]⟩ ⟨#[]⟩ false rfl rfl s0 s1 s2) rfl ⟨rfl,((c.o.setCell nlr _).setCell nlr _).setCell nlr _⟩
   have hf:z=false:=by rw[h.o];first|(simp[okB, *];done)|simp[okB, *,size49]
   subst hf;obtain⟨k,l,m,A,B,C,j⟩:=res3 i.o
   go_wp2_with fail
   obtain⟨s0,s1,s2⟩:=set3 (a':=.bool false) (b':=.string ⟨#[]⟩) (c':=.string ⟨#[]⟩) k l m;exact bodyPost_ret (BG rfl _ _ w.heap.size false ⟨#[]⟩ ⟨#[]⟩ false rfl rfl s0 s1 s2) rfl ⟨rfl,((c.o.setCell nlr _).setCell nlr _).setCell nlr _⟩
  have T:(400:Int)<(d.size:Int):=by omega
  rotate_left
  have N:(400:Int)<(n.size:Int):=by omega
 all_goals
  have hf:z=false:=by rw[h.o];first|(simp[okB, *];done)|simp[okB, *,size49]
  subst hf;obtain⟨k,l,m,A,B,C,j⟩:=res3 i.o
  go_wp2_with fail
  obtain⟨s0,s1,s2⟩:=set3 (a':=.bool false) (b':=.string ⟨#[]⟩) (c':=.string ⟨#[]⟩) k l m;exact bodyPost_ret (BG rfl _ _ w.heap.size false ⟨#[]⟩ ⟨#[]⟩ false rfl rfl s0 s1 s2) rfl ⟨rfl,((c.o.setCell nlr _).setCell nlr _).setCell nlr _⟩
theorem str_eq{l r:List UInt8}:((str l).toList==r)=decide (l=r):=by
 rw[Lib.toList_data];show (bts (str l)==r)=_;rw[AP,Bool.eq_iff_iff];simp
def prsV(o:Option Rat):Value:=match o with|some q=>nv q|none=>NoNum
def Ku(o:Option Rat):∃r x y,prsV o=.agg #[.bool r,.string x,.string y]:=by cases o<;>exact⟨_,_,_,rfl⟩
def Gm(s:ByteArray)(w:World)(J:s.size<=9223372036854775807)(I:Tab w):
  Calls prog 191 #[.string s] w λe w' =>
   e=.returned (.tuple #[prsV (prs s),.bool (prs s).isSome])/\Below w.heap.size w w':=by
 have j:(Ai (bts s)).length<=s.size:=by
  unfold Ai;split
  ·rw[List.length_tail,Ap];omega
  rw[Ap];omega
 have H:(upTo (Ai (bts s))).length<=s.size:=Nat.le_trans (List.takeWhile_sublist _).length_le j;have G:(Bl (Ai (bts s))).length<=s.size:=by
  unfold Bl;rw[List.length_tail];have:=(List.dropWhile_sublist (· != 47) (l:=Ai (bts s))).length_le;omega
 have D:∀c,Below w.heap.size w c->Tab c:=λc h=>I.below h nlr;have g:str (denL (Ai (bts s)))=if hasS (Ai (bts s)) then str (if hasS (Ai (bts s)) then Bl (Ai (bts s)) else []) else ⟨#[49]⟩:=by
  unfold denL;cases hasS (Ai (bts s))<;>rfl
 have i:(str (denL (Ai (bts s)))).size<=9223372036854775807:=by
  rw[AI];unfold denL;split
  ·omega
  show 1<=_;omega
 have E:=Xj s (str (Ai (bts s))) (str (upTo (Ai (bts s)))) (str (if hasS (Ai (bts s)) then Bl (Ai (bts s)) else [])) (str (denL (Ai (bts s))))
  (str (dec (Nat.gcd (num (upTo (Ai (bts s)))) (num (denL (Ai (bts s))))))) (AS (bts s)) (hasS (Ai (bts s))) (Aq (upTo (Ai (bts s)))) (Aq (denL (Ai (bts s)))) w
  g (by rw[AI];omega) i (λc _=>TG s c)
  (λc _=>by
   have:=TC (str (Ai (bts s))) c (by rw[AI];omega);rw[AP]at this;exact this)
  (λc=>by
   have:=Ct (str (upTo (Ai (bts s)))) c (by rw[AI];unfold maxLen;omega);unfold vld at this;rw[AP]at this;exact this)
  (λc=>by
   have:=Ct (str (denL (Ai (bts s)))) c (by unfold maxLen;omega);unfold vld at this;rw[AP]at this;exact this)
  (λu z c h=>by
   have o:=BZ u;have p:=BZ z;have B:fits (num (upTo (Ai (bts s)))):=by unfold fits;rw[o];exact(Bf u).2.1
   have C:fits (num (denL (Ai (bts s)))):=by unfold fits;rw[p];exact(Bf z).2.1
   have:=Ox _ _ c B C (D c h);rw[o,p]at this;exact this)
 refine E.mono ?_;rintro e w'⟨rfl,hb⟩;refine⟨?_,hb⟩;have k:okB (AS (bts s)) (hasS (Ai (bts s))) (Aq (upTo (Ai (bts s)))) (Aq (denL (Ai (bts s)))) (str (upTo (Ai (bts s)))) (str (denL (Ai (bts s)))) (str (dec (Nat.gcd (num (upTo (Ai (bts s)))) (num (denL (Ai (bts s)))))))
   = okP (AS (bts s)) (upTo (Ai (bts s))) (denL (Ai (bts s))) (hasS (Ai (bts s))):=by
  unfold okB okP;rw[str_eq,str_eq,str_eq,str_eq,AI,AI];have F:∀n,(decide (dec n=[49]))=decide (n=1):=λn=>by
   rw[decide_eq_decide];exact⟨λh=>CF (h.trans Ch.symm),λh=>by rw[h,Ch]⟩
  rw[F];have hb:∀l r:List UInt8,(l==r)=decide (l=r):=λl r=>by rw[Bool.eq_iff_iff];simp
  simp only[hb]
 rw[k];cases A:okP (AS (bts s)) (upTo (Ai (bts s))) (denL (Ai (bts s))) (hasS (Ai (bts s)))
 ·have d:prs s=none:=by unfold prs prsL;rw[A];rfl
  rw[d];rfl
 have d:prs s=some (mkRat (sg (AS (bts s)) (num (upTo (Ai (bts s))))) (num (denL (Ai (bts s))))):=by unfold prs prsL;rw[A];rfl
 have m:=(Ks d).2;rw[d];simp only[prsV,nv,m.sign,m.top,m.bot];rfl
end
section
open Go.RowKit
attribute [local go_sem ↓] Go.wp_at_zero Go.wp_at_succ
def Sf(p q:Bool)(h k i l a b c d:ByteArray)(s:Bool)(E:Ending)(w:World)(P:(∃r x y,E=.returned (.agg #[.bool r,.string x,.string y]))\/E=PT)
  (c1:∀wx,Below w.heap.size w wx->Calls prog 189 #[.string h,.string l] wx (StrZ a wx))
  (c2:∀wx,Below w.heap.size w wx->Calls prog 189 #[.string i,.string k] wx (StrZ b wx))
  (c3:∀wx,Below w.heap.size w wx->Calls prog 187 #[.bool p,.string a,.bool q,.string b] wx λe w'=>e=.returned (.tuple #[.bool s,.string c])/\Below wx.heap.size wx w')
  (c4:∀wx,Below w.heap.size w wx->Calls prog 189 #[.string k,.string l] wx (StrZ d wx))
  (c5:∀wx,Below w.heap.size w wx->Calls prog 190 #[.bool s,.string c,.string d] wx λe w'=>e=E/\Below wx.heap.size wx w') :
  Calls prog 186 #[nvS p h k,nvS q i l] w λe w'=>e=E/\Below w.heap.size w w':=by
 replace c1:=qh c1;replace c2:=qh c2;replace c3:=qh c3;replace c4:=qh c4;replace c5:=qh c5;have g:=qh<|GN p q h k i l w;have Q:Below (WR p q h k i l w).heap.size (WR p q h k i l w) (WR p q h k i l w).drew:=blr.drew;unfold nvS
 rcases P with⟨r,x,y,rfl⟩|rfl
 ·
  go_enter func186,ntmps186
  go_wp2_with fail
  change Code.wp _ _ _ _ (WR p q h k i l w)
  go_region_held2 (λj=>Below (WR p q h k i l w).heap.size (WR p q h k i l w) j/\
   j.cell? (Ad w.heap.size 0)=some (.bool p)/\j.cell? (Ad w.heap.size 1)=some (.string h)/\j.cell? (Ad w.heap.size 2)=some (.string k)/\
   j.cell? (Ad (w.heap.size+1) 0)=some (.bool q)/\j.cell? (Ad (w.heap.size+1) 1)=some (.string i)/\j.cell? (Ad (w.heap.size+1) 2)=some (.string l))
   (first|exact DU (by assumption)|exact DU blr.drew)
   (first
   |(go_at_call_of 189 (Value.string h);refine(c1.o _ (Ag g.o (by assumption))).mono ?_;rintro e U⟨rfl,z⟩;have G:=Ag (by assumption) z)
   |(go_at_call_of 189 (Value.string i);refine(c2.o _ (Ag g.o (by assumption))).mono ?_;rintro e W⟨rfl,A⟩;have H:=Ag (by assumption) A)
   |(go_at_call 188;refine(Bd _ _).mono ?_;rintro e w'⟨rfl,rfl⟩)
   |(go_at_call 187;refine(c3.o _ (Ag g.o (by assumption))).mono ?_;rintro e X⟨rfl,B⟩;have m:=Ag (by assumption) B))
  rename_i F;obtain⟨_,I,J,K,L,N,O⟩:=F
  go_wp2_with fail
  refine(c4.o _ (Ag g.o m)).mono ?_;rintro e Y⟨rfl,C⟩;have o:=Ag m C
  go_wp2_with fail
  refine(Bd _ _).mono ?_;rintro e w'⟨rfl,rfl⟩
  go_wp2_with fail
  refine(c5.o _ (Ag g.o o)).mono ?_;rintro e Z⟨rfl,D⟩;have u:=Ag o D;obtain⟨R,S,T,f0,f1,f2⟩:=ER u;obtain⟨s0,s1,s2⟩:=set3 (a':=.bool r) (b':=.string x) (c':=.string y) R S T
  go_wp2_with fail
  refine bodyPost_ret (Eh rfl _ _ (w.heap.size+1+1) r x y rfl s0 s1 s2) rfl ⟨rfl,(((Ag g.o u).setCell ?_ _).setCell ?_ _).setCell ?_ _⟩<;>(show w.heap.size<=w.heap.size+1+1;omega)
 unfold PT at c5 ⊢
 go_enter func186,ntmps186
 go_wp2_with fail
 change Code.wp _ _ _ _ (WR p q h k i l w)
 go_region_held2 (λj=>Below (WR p q h k i l w).heap.size (WR p q h k i l w) j/\
  j.cell? (Ad w.heap.size 0)=some (.bool p)/\j.cell? (Ad w.heap.size 1)=some (.string h)/\j.cell? (Ad w.heap.size 2)=some (.string k)/\
  j.cell? (Ad (w.heap.size+1) 0)=some (.bool q)/\j.cell? (Ad (w.heap.size+1) 1)=some (.string i)/\j.cell? (Ad (w.heap.size+1) 2)=some (.string l))
  (first|exact DU (by assumption)|exact DU blr.drew)
  (first
  |(go_at_call_of 189 (Value.string h);refine(c1.o _ (Ag g.o (by assumption))).mono ?_;rintro e U⟨rfl,z⟩;have G:=Ag (by assumption) z)
  |(go_at_call_of 189 (Value.string i);refine(c2.o _ (Ag g.o (by assumption))).mono ?_;rintro e W⟨rfl,A⟩;have H:=Ag (by assumption) A)
  |(go_at_call 188;refine(Bd _ _).mono ?_;rintro e w'⟨rfl,rfl⟩)
  |(go_at_call 187;refine(c3.o _ (Ag g.o (by assumption))).mono ?_;rintro e X⟨rfl,B⟩;have m:=Ag (by assumption) B))
 rename_i F;obtain⟨_,I,J,K,L,N,O⟩:=F
 go_wp2_with fail
 refine(c4.o _ (Ag g.o m)).mono ?_;rintro e Y⟨rfl,C⟩;have o:=Ag m C
 go_wp2_with fail
 refine(Bd _ _).mono ?_;rintro e w'⟨rfl,rfl⟩
 go_wp2_with fail
 refine(c5.o _ (Ag g.o o)).mono ?_;rintro e Z⟨rfl,D⟩;have u:=Ag o D
 go_wp2_with fail
 exact⟨rfl,rfl,Ag g.o u⟩
def Zr(p q:Bool)(h k i l a b c d:ByteArray)(s:Bool)(E:Ending)(w:World)(P:(∃r x y,E=.returned (.agg #[.bool r,.string x,.string y]))\/E=PT)
  (c1:∀wx,Below w.heap.size w wx->Calls prog 189 #[.string h,.string l] wx (StrZ a wx))
  (c2:∀wx,Below w.heap.size w wx->Calls prog 189 #[.string i,.string k] wx (StrZ b wx))
  (c3:∀wx,Below w.heap.size w wx->Calls prog 187 #[.bool p,.string a,.bool (!q),.string b] wx λe w'=>e=.returned (.tuple #[.bool s,.string c])/\Below wx.heap.size wx w')
  (c4:∀wx,Below w.heap.size w wx->Calls prog 189 #[.string k,.string l] wx (StrZ d wx))
  (c5:∀wx,Below w.heap.size w wx->Calls prog 190 #[.bool s,.string c,.string d] wx λe w'=>e=E/\Below wx.heap.size wx w') :
  Calls prog 212 #[nvS p h k,nvS q i l] w λe w'=>e=E/\Below w.heap.size w w':=by
 replace c1:=qh c1;replace c2:=qh c2;replace c3:=qh c3;replace c4:=qh c4;replace c5:=qh c5;have g:=qh<|GN p q h k i l w;have Q:Below (WR p q h k i l w).heap.size (WR p q h k i l w) (WR p q h k i l w).drew:=blr.drew;unfold nvS
 rcases P with⟨r,x,y,rfl⟩|rfl
 ·
  go_enter func212,ntmps212
  go_wp2_with fail
  change Code.wp _ _ _ _ (WR p q h k i l w)
  go_region_held2 (λj=>Below (WR p q h k i l w).heap.size (WR p q h k i l w) j/\
   j.cell? (Ad w.heap.size 0)=some (.bool p)/\j.cell? (Ad w.heap.size 1)=some (.string h)/\j.cell? (Ad w.heap.size 2)=some (.string k)/\
   j.cell? (Ad (w.heap.size+1) 0)=some (.bool q)/\j.cell? (Ad (w.heap.size+1) 1)=some (.string i)/\j.cell? (Ad (w.heap.size+1) 2)=some (.string l))
   (first|exact DU (by assumption)|exact DU blr.drew)
   (first
   |(go_at_call_of 189 (Value.string h);refine(c1.o _ (Ag g.o (by assumption))).mono ?_;rintro e U⟨rfl,z⟩;have G:=Ag (by assumption) z)
   |(go_at_call_of 189 (Value.string i);refine(c2.o _ (Ag g.o (by assumption))).mono ?_;rintro e W⟨rfl,A⟩;have H:=Ag (by assumption) A)
   |(go_at_call 188;refine(Bd _ _).mono ?_;rintro e w'⟨rfl,rfl⟩)
   |(go_at_call 187;refine(c3.o _ (Ag g.o (by assumption))).mono ?_;rintro e X⟨rfl,B⟩;have m:=Ag (by assumption) B))
  rename_i F;obtain⟨_,I,J,K,L,N,O⟩:=F
  go_wp2_with fail
  refine(c4.o _ (Ag g.o m)).mono ?_;rintro e Y⟨rfl,C⟩;have o:=Ag m C
  go_wp2_with fail
  refine(Bd _ _).mono ?_;rintro e w'⟨rfl,rfl⟩
  go_wp2_with fail
  refine(c5.o _ (Ag g.o o)).mono ?_;rintro e Z⟨rfl,D⟩;have u:=Ag o D;obtain⟨R,S,T,f0,f1,f2⟩:=ER u;obtain⟨s0,s1,s2⟩:=set3 (a':=.bool r) (b':=.string x) (c':=.string y) R S T
  go_wp2_with fail
  refine bodyPost_ret (Eh rfl _ _ (w.heap.size+1+1) r x y rfl s0 s1 s2) rfl ⟨rfl,(((Ag g.o u).setCell ?_ _).setCell ?_ _).setCell ?_ _⟩<;>(show w.heap.size<=w.heap.size+1+1;omega)
 unfold PT at c5 ⊢
 go_enter func212,ntmps212
 go_wp2_with fail
 change Code.wp _ _ _ _ (WR p q h k i l w)
 go_region_held2 (λj=>Below (WR p q h k i l w).heap.size (WR p q h k i l w) j/\
  j.cell? (Ad w.heap.size 0)=some (.bool p)/\j.cell? (Ad w.heap.size 1)=some (.string h)/\j.cell? (Ad w.heap.size 2)=some (.string k)/\
  j.cell? (Ad (w.heap.size+1) 0)=some (.bool q)/\j.cell? (Ad (w.heap.size+1) 1)=some (.string i)/\j.cell? (Ad (w.heap.size+1) 2)=some (.string l))
  (first|exact DU (by assumption)|exact DU blr.drew)
  (first
  |(go_at_call_of 189 (Value.string h);refine(c1.o _ (Ag g.o (by assumption))).mono ?_;rintro e U⟨rfl,z⟩;have G:=Ag (by assumption) z)
  |(go_at_call_of 189 (Value.string i);refine(c2.o _ (Ag g.o (by assumption))).mono ?_;rintro e W⟨rfl,A⟩;have H:=Ag (by assumption) A)
  |(go_at_call 188;refine(Bd _ _).mono ?_;rintro e w'⟨rfl,rfl⟩)
  |(go_at_call 187;refine(c3.o _ (Ag g.o (by assumption))).mono ?_;rintro e X⟨rfl,B⟩;have m:=Ag (by assumption) B))
 rename_i F;obtain⟨_,I,J,K,L,N,O⟩:=F
 go_wp2_with fail
 refine(c4.o _ (Ag g.o m)).mono ?_;rintro e Y⟨rfl,C⟩;have o:=Ag m C
 go_wp2_with fail
 refine(Bd _ _).mono ?_;rintro e w'⟨rfl,rfl⟩
 go_wp2_with fail
 refine(c5.o _ (Ag g.o o)).mono ?_;rintro e Z⟨rfl,D⟩;have u:=Ag o D
 go_wp2_with fail
 exact⟨rfl,rfl,Ag g.o u⟩
def Ww(p q:Bool)(h g j i a b:ByteArray)(E:Ending)(w:World)(H:(∃r x y,E=.returned (.agg #[.bool r,.string x,.string y]))\/E=PT)
  (c1:∀wx,Below w.heap.size w wx->Calls prog 189 #[.string h,.string j] wx (StrZ a wx))
  (c2:∀wx,Below w.heap.size w wx->Calls prog 189 #[.string g,.string i] wx (StrZ b wx))
  (c5:∀wx,Below w.heap.size w wx->Calls prog 190 #[.bool (p != q),.string a,.string b] wx λe w'=>e=E/\Below wx.heap.size wx w') :
  Calls prog 192 #[nvS p h g,nvS q j i] w λe w'=>e=E/\Below w.heap.size w w':=by
 replace c1:=qh c1;replace c2:=qh c2;replace c5:=qh c5;have c:=qh<|GN p q h g j i w;have I:Below (WR p q h g j i w).heap.size (WR p q h g j i w) (WR p q h g j i w).drew:=blr.drew;unfold nvS
 rcases H with⟨r,x,y,rfl⟩|rfl
 ·
  go_enter func192,ntmps192
  go_wp2_with fail
  change Code.wp _ _ _ _ (WR p q h g j i w)
  go_region_held2 (λd=>Below (w.heap.size+1+1) (WR p q h g j i w) d/\
   d.cell? (Ad w.heap.size 0)=some (.bool p)/\d.cell? (Ad w.heap.size 1)=some (.string h)/\d.cell? (Ad w.heap.size 2)=some (.string g)/\
   d.cell? (Ad (w.heap.size+1) 0)=some (.bool q)/\d.cell? (Ad (w.heap.size+1) 1)=some (.string j)/\d.cell? (Ad (w.heap.size+1) 2)=some (.string i))
   (first|exact Cz (CB (by assumption))|exact Cz (CB blr.drew)|exact Cz ((((CB (by assumption)).setCell nlr _).setCell nlr _).setCell nlr _))
   (first
   |(go_at_call_of 189 (Value.string h);refine(c1.o _ (Ag c.o (by assumption))).mono ?_;rintro e J⟨rfl,m⟩;have u:=Ag (by assumption) m)
   |(go_at_call_of 189 (Value.string g);refine(c2.o _ (Ag c.o (by assumption))).mono ?_;rintro e K⟨rfl,o⟩;have z:=Ag (by assumption) o)
   |(go_at_call 188;refine(Bd _ _).mono ?_;rintro e w'⟨rfl,rfl⟩)
   |(go_at_call 190;refine(c5.o _ (Ag c.o (by assumption))).mono ?_;rintro e L⟨rfl,s⟩;have k:=Ag (by assumption) s;obtain⟨A,B,C,D,F,G⟩:=ER k;obtain⟨s0,s1,s2⟩:=set3 (a':=.bool r) (b':=.string x) (c':=.string y) A B C))
  go_wp2_with fail
  refine bodyPost_ret (Eh rfl _ _ (w.heap.size+1+1) r x y rfl s0 s1 s2) rfl ⟨rfl,(((Ag c.o k).setCell ?_ _).setCell ?_ _).setCell ?_ _⟩<;>(show w.heap.size<=w.heap.size+1+1;omega)
 unfold PT at c5 ⊢
 go_enter func192,ntmps192
 go_wp2_with fail
 change Code.wp _ _ _ _ (WR p q h g j i w)
 go_region_held2 (λd=>Below (w.heap.size+1+1) (WR p q h g j i w) d/\
  d.cell? (Ad w.heap.size 0)=some (.bool p)/\d.cell? (Ad w.heap.size 1)=some (.string h)/\d.cell? (Ad w.heap.size 2)=some (.string g)/\
  d.cell? (Ad (w.heap.size+1) 0)=some (.bool q)/\d.cell? (Ad (w.heap.size+1) 1)=some (.string j)/\d.cell? (Ad (w.heap.size+1) 2)=some (.string i))
  (first|exact Cz (CB (by assumption))|exact Cz (CB blr.drew)|exact Cz ((((CB (by assumption)).setCell nlr _).setCell nlr _).setCell nlr _))
  (first
  |(go_at_call_of 189 (Value.string h);refine(c1.o _ (Ag c.o (by assumption))).mono ?_;rintro e J⟨rfl,m⟩;have u:=Ag (by assumption) m)
  |(go_at_call_of 189 (Value.string g);refine(c2.o _ (Ag c.o (by assumption))).mono ?_;rintro e K⟨rfl,o⟩;have z:=Ag (by assumption) o)
  |(go_at_call 188;refine(Bd _ _).mono ?_;rintro e w'⟨rfl,rfl⟩)
  |(go_at_call 190;refine(c5.o _ (Ag c.o (by assumption))).mono ?_;rintro e L⟨rfl,s⟩;have k:=Ag (by assumption) s;obtain⟨A,B,C,D,F,G⟩:=ER k;refine Np (by assumption) 26 (.agg #[.bool false,.string ⟨#[]⟩,.string ⟨#[]⟩]) ⟨rfl,rfl,Ag c.o k⟩ (λl=>?_)))
 exact l.o.elim
def TV(p q:Bool)(h g j i a b:ByteArray)(E:Ending)(w:World)(H:(∃r x y,E=.returned (.agg #[.bool r,.string x,.string y]))\/E=PT)
  (c1:∀wx,Below w.heap.size w wx->Calls prog 189 #[.string h,.string i] wx (StrZ a wx))
  (c2:∀wx,Below w.heap.size w wx->Calls prog 189 #[.string g,.string j] wx (StrZ b wx))
  (c5:∀wx,Below w.heap.size w wx->Calls prog 190 #[.bool (p != q),.string a,.string b] wx λe w'=>e=E/\Below wx.heap.size wx w') :
  Calls prog 213 #[nvS p h g,nvS q j i] w λe w'=>e=E/\Below w.heap.size w w':=by
 replace c1:=qh c1;replace c2:=qh c2;replace c5:=qh c5;have c:=qh<|GN p q h g j i w;have I:Below (WR p q h g j i w).heap.size (WR p q h g j i w) (WR p q h g j i w).drew:=blr.drew;unfold nvS
 rcases H with⟨r,x,y,rfl⟩|rfl
 ·
  go_enter func213,ntmps213
  go_wp2_with fail
  change Code.wp _ _ _ _ (WR p q h g j i w)
  go_region_held2 (λd=>Below (w.heap.size+1+1) (WR p q h g j i w) d/\
   d.cell? (Ad w.heap.size 0)=some (.bool p)/\d.cell? (Ad w.heap.size 1)=some (.string h)/\d.cell? (Ad w.heap.size 2)=some (.string g)/\
   d.cell? (Ad (w.heap.size+1) 0)=some (.bool q)/\d.cell? (Ad (w.heap.size+1) 1)=some (.string j)/\d.cell? (Ad (w.heap.size+1) 2)=some (.string i))
   (first|exact Cz (CB (by assumption))|exact Cz (CB blr.drew)|exact Cz ((((CB (by assumption)).setCell nlr _).setCell nlr _).setCell nlr _))
   (first
   |(go_at_call_of 189 (Value.string h);refine(c1.o _ (Ag c.o (by assumption))).mono ?_;rintro e J⟨rfl,m⟩;have u:=Ag (by assumption) m)
   |(go_at_call_of 189 (Value.string g);refine(c2.o _ (Ag c.o (by assumption))).mono ?_;rintro e K⟨rfl,o⟩;have z:=Ag (by assumption) o)
   |(go_at_call 188;refine(Bd _ _).mono ?_;rintro e w'⟨rfl,rfl⟩)
   |(go_at_call 190;refine(c5.o _ (Ag c.o (by assumption))).mono ?_;rintro e L⟨rfl,s⟩;have k:=Ag (by assumption) s;obtain⟨A,B,C,D,F,G⟩:=ER k;obtain⟨s0,s1,s2⟩:=set3 (a':=.bool r) (b':=.string x) (c':=.string y) A B C))
  go_wp2_with fail
  refine bodyPost_ret (Eh rfl _ _ (w.heap.size+1+1) r x y rfl s0 s1 s2) rfl ⟨rfl,(((Ag c.o k).setCell ?_ _).setCell ?_ _).setCell ?_ _⟩<;>(show w.heap.size<=w.heap.size+1+1;omega)
 unfold PT at c5 ⊢
 go_enter func213,ntmps213
 go_wp2_with fail
 change Code.wp _ _ _ _ (WR p q h g j i w)
 go_region_held2 (λd=>Below (w.heap.size+1+1) (WR p q h g j i w) d/\
  d.cell? (Ad w.heap.size 0)=some (.bool p)/\d.cell? (Ad w.heap.size 1)=some (.string h)/\d.cell? (Ad w.heap.size 2)=some (.string g)/\
  d.cell? (Ad (w.heap.size+1) 0)=some (.bool q)/\d.cell? (Ad (w.heap.size+1) 1)=some (.string j)/\d.cell? (Ad (w.heap.size+1) 2)=some (.string i))
  (first|exact Cz (CB (by assumption))|exact Cz (CB blr.drew)|exact Cz ((((CB (by assumption)).setCell nlr _).setCell nlr _).setCell nlr _))
  (first
  |(go_at_call_of 189 (Value.string h);refine(c1.o _ (Ag c.o (by assumption))).mono ?_;rintro e J⟨rfl,m⟩;have u:=Ag (by assumption) m)
  |(go_at_call_of 189 (Value.string g);refine(c2.o _ (Ag c.o (by assumption))).mono ?_;rintro e K⟨rfl,o⟩;have z:=Ag (by assumption) o)
  |(go_at_call 188;refine(Bd _ _).mono ?_;rintro e w'⟨rfl,rfl⟩)
  |(go_at_call 190;refine(c5.o _ (Ag c.o (by assumption))).mono ?_;rintro e L⟨rfl,s⟩;have k:=Ag (by assumption) s;obtain⟨A,B,C,D,F,G⟩:=ER k;refine Np (by assumption) 26 (.agg #[.bool false,.string ⟨#[]⟩,.string ⟨#[]⟩]) ⟨rfl,rfl,Ag c.o k⟩ (λl=>?_)))
 exact l.o.elim
end
section
def EB{s:Int}(h:s≠0){x u:List Int}:red s x=some u↔x=s::u :=
 ⟨λe=>by rcases Px e with⟨c,_⟩|⟨_,c⟩;exact absurd c h;exact c,λe=>by rw[e];exact Pt h u⟩
open CSR
section
variable{R:Type}[CSR R]
def evO(f:List Int->List Int->R)(o p:Option (List Int)):R:=match o,p with
 |some a,some b=>f a b
 |_,_=>zero
theorem Nj(f:List Int->List Int->R)(g h:List Int->Option (List Int))(o p:Option (List Int)):evO (λa b=>evO f (g a) (h b)) o p=evO f (o.bind g) (p.bind h):=by
 cases o with
 |none=>rfl
 |some a=>cases p with
  |none=>show zero=evO f (g a) none;unfold evO;cases g a<;>rfl
  |some b=>rfl
theorem UP(f:List Int->List Int->R)(g h:List Int->List Int)(o p:Option (List Int)):evO f (o.map g) (p.map h)=evO (λa b=>f (g a) (h b)) o p:=by
 cases o<;>cases p<;>rfl
def Ee{f g:List Int->List Int->R}(h:∀a b,f a b=g a b)(o p:Option (List Int)):evO f o p=evO g o p:=by
 cases o<;>cases p<;>first|rfl|exact h _ _
def UT(o p:Option (List Int)):evO (λ_ _=>(zero:R)) o p=zero:=by
 cases o<;>cases p<;>rfl
theorem Nl(c:R)(f:List Int->List Int->R)(o p:Option (List Int)):evO (λa b=>c*f a b) o p=c*evO f o p:=by
 cases o<;>cases p<;>first|rfl|exact(m0 c).symm
theorem UQ(c:R)(f:List Int->List Int->R)(o p:Option (List Int)):evO (λa b=>f a b*c) o p=evO f o p*c:=by
 cases o<;>cases p<;>first|rfl|exact(zm c).symm
theorem FS(f:Nat->List Int->List Int->R)(n:Nat)(o p:Option (List Int)):evO (λa b=>sum (λi=>f i a b) n) o p=sum (λi=>evO (f i) o p) n:=by
 cases o<;>cases p<;>first|rfl|exact(sum_zero n).symm
theorem Nk(c:Prop)[Decidable c](f:List Int->List Int->R)(o p:Option (List Int)):evO (λa b=>if c then f a b else zero) o p=if c then evO f o p else zero:=by
 by_cases h:c
 ·simp only[ifp h]
 simp only[ifn h];cases o<;>cases p<;>rfl
theorem Nm(o p:Option (List Int)):evO (λa b=>if a=[]/\b=[] then (one:R) else zero) o p=if o=some []/\p=some [] then one else zero:=by
 cases o<;>cases p<;>simp[evO]
theorem ET(A:RM R)(f:Nat->List Int->List Int->R)(q k:Nat)(x y:List Int):arcT A f q k x y=A.aw q k*evO (f (A.ato q k)) (red (A.ain q k) x) (red (A.aout q k) y):=by
 unfold arcT evO;cases red (A.ain q k) x<;>cases red (A.aout q k) y<;>first|rfl|exact(m0 _).symm
theorem QB(f:Nat->R):∀n,sum f (n+1)=f 0+sum (λi=>f (i+1)) n
 |0=>by show zero+f 0=f 0+zero;rw[z0,a0]
 |n+1=>by
  show sum f (n+1)+f (n+1)=f 0+(sum _ n+f (n+1));rw[QB f n,aA]
end
end
section
open CSR
variable{na:Nat}{x:Nat->Int}
section
variable{R:Type}[CSR R]
theorem US(f:List Int->List Int->R)(o p:Option (List Int)):evO f o p=evO (λa b=>f b a) p o:=by
 cases o<;>cases p<;>rfl
def invR(A:RM R):RM R:={ A with ain:=A.aout,aout:=A.ain }
theorem QY(A:RM R):∀N q x y,unr (invR A) N q x y=unr A N q y x
 |0,_,_,_=>rfl
 |N+1,q,x,y=>by
  show endT (invR A) q x y+sum (λk=>arcT (invR A) (unr (invR A) N) q k x y) (A.na q)=endT A q y x+sum (λk=>arcT A (unr A N) q k y x) (A.na q)
  congr 1
  ·show (if x=[]/\y=[] then A.fin q else zero)=if y=[]/\x=[] then A.fin q else zero
   simp only[and_comm]
  refine sum_congr λk _=>?_;rw[ET,ET,US];show A.aw q k*evO (λa b=>unr (invR A) N (A.ato q k) b a) (red (A.ain q k) y) (red (A.aout q k) x)=_;rw[Ee (λa b=>QY A N (A.ato q k) b a)]
theorem Vw{A:RM R}(h:Inn A):Inn (invR A):=h
def inZ(A:RM R):RM R:={ A with aout:=λ_ _=>0 }
def inR(A:RM R):RM R:={ A with aout:=A.ain }
def UR(f:List Int->List Int->R)(g:List Int->R)(o:Option (List Int))(h:∀a,f a a=g a):evO f o o=evO (λa _=>g a) o (some []):=by
 cases o with
 |none=>rfl
 |some a=>exact h a
theorem QX(A:RM R):∀N q x,unr (inR A) N q x x=unr (inZ A) N q x []
 |0,_,_=>rfl
 |N+1,q,x=>by
  show endT (inR A) q x x+sum (λk=>arcT (inR A) (unr (inR A) N) q k x x) (A.na q)=endT (inZ A) q x []+sum (λk=>arcT (inZ A) (unr (inZ A) N) q k x []) (A.na q)
  congr 1
  ·show (if x=[]/\x=[] then A.fin q else zero)=if x=[]/\[]=[] then A.fin q else zero
   simp
  refine sum_congr λk _=>?_;rw[ET,ET];show A.aw q k*evO (unr (inR A) N (A.ato q k)) (red (A.ain q k) x) (red (A.ain q k) x)=A.aw q k*evO (unr (inZ A) N (A.ato q k)) (red (A.ain q k) x) (red 0 []);rw[Df,UR _ (λa=>unr (inZ A) N (A.ato q k) a []) _ (λa=>QX A N _ a)]
  congr 1
  cases red (A.ain q k) x<;>rfl
structure CatOf(A B C:RM R)(oa ob:Nat):Prop where
 start:C.start=oa+A.start
 lead:C.lead=A.lead*B.lead
 finA:∀q,q<A.n->C.fin (oa+q)=zero
 finB:∀p,p<B.n->C.fin (ob+p)=B.fin p
 arcsA:∀q,q<A.n->∀f:Int->Int->R->Nat->R,(∀s t q,f s t zero q=zero)->sum (λk=>f (C.ain (oa+q) k) (C.aout (oa+q) k) (C.aw (oa+q) k) (C.ato (oa+q) k)) (C.na (oa+q))=sum (λk=>f (A.ain q k) (A.aout q k) (A.aw q k) (oa+A.ato q k)) (A.na q)+f 0 0 (A.fin q) (ob+B.start)
 arcsB:∀p,p<B.n->∀f:Int->Int->R->Nat->R,sum (λk=>f (C.ain (ob+p) k) (C.aout (ob+p) k) (C.aw (ob+p) k) (C.ato (ob+p) k)) (C.na (ob+p))=sum (λk=>f (B.ain p k) (B.aout p k) (B.aw p k) (ob+B.ato p k)) (B.na p)
section
variable{A B C:RM R}{oa ob:Nat}(h:CatOf A B C oa ob)(hA:Inn A)(hB:Inn B)(hs:B.start<B.n)
include h
end
variable[CSC R]
theorem XR{A:RM R}(c:Inn A)(d:A.start<A.n)(x y:List Int):rel (invR A) x y=rel A y x :=
 Lub.eq ((Fu (Vw c) d x y).congr (λN=>by rw[QY];rfl)) (Fu c d y x)
theorem XQ{A:RM R}(c:Inn A)(d:A.start<A.n)(x:List Int):rel (inR A) x x=rel (inZ A) x [] :=
 Lub.eq ((Fu (show Inn (inR A) from c) d x x).congr (λN=>by rw[QX];rfl)) (Fu (show Inn (inZ A) from c) d x [])
theorem Sn{A:RM R}(c:Inn A)(k:∀i,i<na->x i≠0)(y:Nat->Int){i:Nat}(hi:i<na)(v:Nat->R):dot A.n v (cAt A na x 0 y i 0)=dot A.n (stp A (x i) 0 (rst (sil A) A.n v)) (cAt A na x 0 y (i+1) 0):=by
 have d:dot A.n v (cAt A na x 0 y i 0)=dot A.n v (sol (sil A) A.n (λp=>dT A p (ls x na i) (ls y 0 0))):=BS (λ_ _=>rfl) (λq h=>LB c h _ _);rw[d,Jy,Hh c];refine BS (λ_ _=>rfl) (λp l=>?_);rw[Jq k (λj g=>absurd g (Nat.not_lt_zero j)) (by omega) (Nat.le_refl 0)];unfold fAt gAt;simp[show ¬i=na by omega,hi,z0,a0]
theorem Sm{A:RM R}(d:Inn A)(k:∀i,i<na->x i≠0)(y:Nat->Int)(v:Nat->R):dot A.n v (cAt A na x 0 y na 0)=dot A.n (rst (sil A) A.n v) A.fin:=by
 have c:dot A.n v (cAt A na x 0 y na 0)=dot A.n v (sol (sil A) A.n (λp=>dT A p (ls x na na) (ls y 0 0))):=BS (λ_ _=>rfl) (λq h=>LB d h _ _);rw[c,Jy];refine BS (λ_ _=>rfl) (λp l=>?_);rw[Jq k (λj g=>absurd g (Nat.not_lt_zero j)) nlr (Nat.le_refl 0)];unfold fAt gAt;simp[z0,a0]
end
end
end Go.Proofs.YteappjogmnogcaaGreatDoor
