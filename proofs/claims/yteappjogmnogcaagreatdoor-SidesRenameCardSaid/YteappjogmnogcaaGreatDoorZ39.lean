/- Parts. -/
import Derived.Test.YteappjogmnogcaaGreatDoorZ23
import Derived.Test.YteappjogmnogcaaGreatDoorZ37
import Derived.Test.YteappjogmnogcaaGreatDoorZ36
import Derived.Test.YteappjogmnogcaaGreatDoorZ32
import Derived.Test.YteappjogmnogcaaGreatDoorZ33
import Derived.Test.YteappjogmnogcaaGreatDoorZ34
import Derived.Lib.SmallJoins
import Derived.Deep.SlicePairs
namespace Go.Proofs.YteappjogmnogcaaGreatDoor
set_option maxRecDepth 100000
set_option linter.all false
set_option maxHeartbeats 16000000
open Go Tryz
section
open Go.RowKit Go.Deep
variable{x y:Nat->Int}{D:MD}{na nb:Nat}
def Wv(D:MD)(na:Nat)(x:Nat->Int)(nb:Nat)(y:Nat->Int)(z:ByteArray × Nat):Prop:=z.2=0->∀k:KK,k.1=D.kind->Sv k z.1 (rel (rmOf k D) (ls x na 0) (ls y nb 0))
def WvE(D:MD)(na:Nat)(x:Nat->Int)(nb:Nat)(y:Nat->Int)(w:World)(r:Ending)(w':World):Prop :=
 Below w.heap.size w w'/\∃z:ByteArray × Nat,r=.returned (.tuple #[.string z.1,.int .i64 (z.2:Int)])/\((VM D/\isWord na x=true/\isWord nb y=true/\Wv D na x nb y z)\/(¬(VM D/\isWord na x=true/\isWord nb y=true)/\z=(⟨#[]⟩,1)))
def isWord.ne{n:Nat}(h:isWord n x=true):∀i,i<n->x i≠0:=λi hi=>by
 unfold isWord at h;rw[Bool.and_eq_true]at h;have c:=GL.1 h.2 i hi;omega
theorem Wg8G.v{w:World}{r:Ending}{s:World}(h:Wg8G D na x nb y w r s):WvE D na x nb y w r s:=by
 refine⟨h.1,?_⟩
 rcases h.2 with⟨l,o,p,st,u,z,j,c,i⟩|⟨A,i⟩
 ·refine⟨z,i,.inl ⟨l,o,p,λd k m=>?_⟩⟩;by_cases g:u=0
  ·subst g;rw[ifn (by simp)]at c;rw[c]at d ⊢;exact z0x l m (j.st m) (isWord.ne o) (isWord.ne p) d
  rw[ifp g]at c;rw[c]at d;exact absurd d g
 exact⟨(⟨#[]⟩,1),i,.inr ⟨A,rfl⟩⟩
def Wv.eq{i:MD}{d:Nat}{o:Nat->Int}{g:Nat}{p:Nat->Int}{z l:ByteArray × Nat}(h:Wv D na x nb y z)(s:Wv i d o g p l)(A:VM D)(B:i.kind=D.kind)
  (C:∀k:KK,k.1=D.kind->rel (rmOf k D) (ls x na 0) (ls y nb 0)=rel (rmOf k i) (ls o d 0) (ls p g 0)) (E:z.2=0) (j:l.2=0):z.1=l.1:=by
 obtain⟨k,c⟩:=A.kk;have m:=h E k c;have u:=s j k (c.trans B.symm);rw[C k c]at m;exact m.text u
def IQ{mv d g:Value}(w:World)(i:Ma none w mv D)(c:MSz D)(k:Si none w d na x)(l:Si none w g nb y):
  Calls prog 19 #[mv,d,g] w (WvE D na x nb y w):=by
 obtain⟨sv,rfl,j⟩:=i;exact(z0b w j c k l).mono λ_ _ h=>h.v
variable{g z:ByteArray × Nat}
theorem Zy(D:MD):D.sym (λi _=>(i,0))=D.inZ:=rfl
theorem Nr(D:MD)(v:Nat->ByteArray):∀q,finR D.inZ v q=finR D v q
 |0=>rfl
 |q+1=>by
  show (if (finR D.inZ v q).2≠0 then finR D.inZ v q else if D.fin q=⟨#[]⟩ then finR D.inZ v q else addR D.kind (finR D.inZ v q).1 0 (v q) (D.fin q))=_
  rw[Nr D v q];rfl
def Ut(D:MD)(v:Nat->ByteArray):endR D.inZ v=endR D v:=by
 show (if (finR D.inZ v D.n).2≠0 then (⟨#[]⟩,(finR D.inZ v D.n).2) else ((finR D.inZ v D.n).1 0,0))=_
 rw[Nr];rfl
def Dv(D:MD)(na:Nat)(x:Nat->Int)(z:ByteArray × Nat):Prop:=z.2=0->∀k:KK,k.1=D.kind->Sv k z.1 (rel (rmOf k D.inZ) (ls x na 0) [])
def Wv.dom(c:VM D)(h:Wv D.inR na x na x z)(l:Dv D na x g)(o:z.2=0)(d:g.2=0):z.1=g.1:=by
 obtain⟨k,j⟩:=c.kk;have i:=h o k j;have m:=l d k j;rw[Yl,XQ (c.inn k) (c.stn k)]at i;exact i.text m
theorem Wv.inv{nb:Nat}{y:Nat->Int}(c:VM D)(h:Wv D.inv na x nb y z)(l:Wv D nb y na x g)(m:z.2=0)(d:g.2=0):z.1=g.1:=by
 obtain⟨k,j⟩:=c.kk;have i:=h m k j;rw[Ym,XR (c.inn k) (c.stn k)]at i;exact i.text<|l d k j
theorem VN(φ:Int->Int)(x:Nat->Int):∀m i,lsN (λi=>φ (x i)) m i=(lsN x m i).map φ
 |0,_=>rfl
 |m+1,i=>by show φ (x i)::lsN _ m (i+1)=φ (x i)::(lsN x m (i+1)).map φ;rw[VN φ x m (i+1)]
theorem Kc(x:Nat->Int):∀m i j,j<m->(lsN x m i)[j]?=some (x (i+j))
 |m+1,i,0,_=>rfl
 |m+1,i,j+1,h=>by
  show (lsN x m (i+1))[j]?=_;rw[Kc x m (i+1) j (by omega),show i+1+j=i+(j+1) by omega]
theorem Oa(x:Nat->Int):∀m i,(lsN x m i).length=m
 |0,_=>rfl
 |m+1,i=>by show (lsN x m (i+1)).length+1=_;rw[Oa]
theorem Od(x:Nat->Int)(n:Nat):ls (λi=>x (n-1-i)) n 0=(ls x n 0).reverse:=by
 have c:∀f:Nat->Int,(ls f n 0).length=n:=λf=>Oa f _ _;refine List.ext_getElem? λj=>?_;by_cases h:j<n
 ·rw[List.getElem?_reverse (by rw[c];exact h),c];have d:(ls (λi=>x (n-1-i)) n 0)[j]?=some (x (n-1-(0+j))):=Kc _ (n-0) 0 j h;have g:(ls x n 0)[n-1-j]?=some (x (0+(n-1-j))):=Kc x (n-0) 0 (n-1-j) (by omega);rw[d,g,Nat.zero_add,Nat.zero_add]
 rw[List.getElem?_eq_none (by rw[c];omega),List.getElem?_eq_none (by rw[List.length_reverse,c];omega)]

variable{mv:Value}
def LN:AccD D↔∀i,i<D.n->anyA D i (λa b=>!selE a b)=false:=by
 constructor
 ·intro h i hi;refine LW λd g=>?_;have:=h i d hi g;simp[selE,this]
 intro h q d l g;have k:=h q l;cases c:selE (D.ain q d) (D.aout q d)
 ·have j:anyA D q (λa b=>!selE a b)=true:=Ja.2 ⟨d,g,by simp[c]⟩;rw[k]at j;cases j
 unfold selE at c;simp at c;exact c.symm
def TstM(Q:Prop)(w:World)(r:Ending)(w':World):Prop:=Below w.heap.size w w'/\((Q/\r=.returned (.bool true))\/(¬Q/\r=.returned (.bool false)))
def Sj(w:World)(hM:Ma none w mv D)(a2:MSz D)(ht:Tab w):Calls prog 106 #[mv,.func (.func 107) #[] #[]] w (TstM (VM D/\AccD D) w):=by
 obtain⟨sv,rfl,hS⟩:=hM;obtain⟨a,cp,b,b3,A,C,BB,O,b9,ha,hc,hm,hb,E⟩:=hS.open;subst b9;unfold maxLen at hm;obtain⟨P,u⟩:=exq<|w.alloc (.cells #[.int .i64 D.kind,.int .i64 D.start,.string D.lead,.slice a D.n cp] 24);obtain⟨G,F⟩:=exq<|P.alloc (.cells #[.func (.func 107) #[] #[]] 100);have b2:P.heap.size=w.heap.size+1:=by rw[u];simp
 have a9:Fr (λ_=>False) w P:=by rw[u];exact Fr.alloc _ _
 have Y:Fr (λ_=>False) P G:=by rw[F];exact Fr.alloc _ _
 have Z:P.heap[w.heap.size]?=some (.cells #[.int .i64 D.kind,.int .i64 D.start,.string D.lead,.slice a D.n cp] 24 (0,0)):=by rw[u];exact han w _
 have d:G.heap[w.heap.size]?=some (.cells #[.int .i64 D.kind,.int .i64 D.start,.string D.lead,.slice a D.n cp] 24 (0,0)):=(Y.block _ (lbk Z) (λe=>e)).trans Z;have s:PAl (w.heap.size+1) 107 G:=by show G.heap[w.heap.size+1]?=_;rw[<-b2,F];exact han P _
 have H:Below w.heap.size w G:=(a9.trans Y).below nlr (λ_ e=>e.elim);obtain⟨mb,a1⟩:=exq<|w.heap.size;obtain⟨tb,a3⟩:=exq<|w.heap.size+1;obtain⟨⟨m0,m1,m2,m3⟩,_⟩:=cells4 d;have a6:=qh<|Ds G (⟨_,rfl,hS.kept (Ab H none)⟩:Ma none G (.agg #[.int .i64 D.kind,.int .i64 D.start,.string D.lead,.slice a D.n cp]) D) a2 (ht.below H nlr);rw[<-a1]at d;rw[<-a3]at s;have b6:mb<G.heap.size:=lbk d;have Q:=qh H;clear H;have T:=qh d;clear d Z a9 Y b2;have o:=qh s;clear s;replace hS:=qh hS;replace ht:=qh ht;replace a2:=qh a2;replace ha:=qh ha;have HB:=qh hb;clear hb;replace E:=qh E;rw[F,u]at m0 m1 m2 m3
 go_enter func106,ntmps106
 go_wp2_with fail
 rw[<-u,<-F,<-a3,<-a1];clear m0 m1 m2 m3 u F a1 a3;refine a6.o.mono ?_;rintro r w3⟨I,hr⟩;have N:=Q.o.trans<|I.mono Q.o.size;have d:=(I.block _ (lbk T.o)).trans T.o;have s:PAl tb 107 w3:=(I.block _ (lbk o.o)).trans o.o;obtain⟨⟨m0,m1,m2,m3⟩,_⟩:=cells4 d;clear I T o a6 Q b6;have R:=qh N;clear N;have o:=qh s;clear s d
 rcases hr with⟨hv,rfl⟩|⟨hv,rfl⟩
 rotate_left
 ·have HV:=qh hv;clear hv;go_wp2;go_ret;exact⟨R.o,.inr ⟨λh=>HV.o h.1,rfl⟩⟩
 have b7:=hv.n1;have b8:=hv.n2;have HV:=qh hv;clear hv;obtain rfl:=ha.o (by omega);obtain⟨n,hn⟩:=exq<|D.n;rw[<-hn]at b7 b8 m3 hc;have HN:=qh hn;rw[<-hn];clear hn
 go_wp2_with fail
 clear m0 m1 m2 m3
 go_loopw [13] (λa5 wr=>∃i:Nat,i<=n/\a5=.int .i64 (i:Int)/\Below w.heap.size w wr/\PAl tb 107 wr/\∀j,j<i->anyA D j (λa b=>!selE a b)=false) (λa5 _=>n-(intOf a5).toNat)
 case atStart=>exact⟨0,Nat.zero_le _,rfl,R.o,o.o,λj hj=>by omega⟩
 obtain⟨i,hi,rfl,a8,b1,K⟩:=hrel;clear R o;replace K:=qh K;have m:=qh a8;clear a8;have U:=qh b1;clear b1;by_cases d0:i<n
 ·have c9:(i:Int)<(n:Int):=by omega
  have c7:(0:Int)<=(i:Int):=by omega
  have b5:i<D.n:=by have:=HN.o;omega
  have a7:=(HB.o (by have:=HN.o;omega)).1;obtain⟨k1,k2,k3,k4,k5,k6,k7⟩:=E.o i b5;have t0:=(m.o.cell (p:=(Ad b (b3+i*2))) a7).trans k1;have t1:=(m.o.cell (p:=(Ad b (b3+i*2+1))) a7).trans k2;clear k1 k2;have b0:D.na i<=30000:=by have h1:=Nat.le_trans (BA D (show i+1<=D.n by omega)) HV.o.arcs;have h2:Ac D (i+1)=Ac D i+D.na i:=rfl;omega
  obtain⟨w4,a4⟩:=exq<|wr.alloc (.cells #[.string (D.fin i),.slice (A i) (D.na i) (C i)] 57);have W:Below wr.heap.size wr w4:=by rw[a4];exact(Below.refl _ wr).alloc nlr _
  have c:=m.o.trans<|W.mono m.o.size;have l:PAl tb 107 w4:=(W.block _ (lbk U.o)).trans U.o;have L:ArS none w4 (.slice (A i) (D.na i) (C i)) D i:=by
   by_cases h0:D.na i=0
   ·exact .inl ⟨h0,A i,C i,by rw[h0],k4⟩
   refine .inr ⟨BB i,O i,C i,by rw[k5 (by omega)],⟨Nat.lt_of_lt_of_le (k6 (by omega)).1 c.size,by simp⟩,k3,k4,λk hk=>?_⟩;obtain⟨u0,u1,u2,u3⟩:=k7 k hk;have J:=(k6 (by omega)).1;exact⟨(c.cell (p:=(Ad (BB i) (O i+k*4))) J).trans u0,(c.cell (p:=(Ad (BB i) (O i+k*4+1))) J).trans u1,(c.cell (p:=(Ad (BB i) (O i+k*4+2))) J).trans u2,(c.cell (p:=(Ad (BB i) (O i+k*4+3))) J).trans u3⟩
  have d1:∀(fn:Fn) (first cap:Array Value) (w:World),(Instr.makeFunc fn first cap).run prog w=.ok (.func fn first cap) w:=λ_ _ _ _=>rfl
  have HC:=qh<|Tv w4 L b0 (ZW tb ZV) (λwb hb=>(hb.block _ (lbk l)).trans l);have S:=qh c;clear c W L k3 k4 k5 k6 k7;have z:=qh l;clear l U m
  go_wp2_with fail
  rw[<-a4];clear t0 t1 a4;refine HC.o.mono ?_;rintro r w5⟨rfl,X⟩;have g:=S.o.trans<|X.mono S.o.size;have B:PAl tb 107 w5:=(X.block _ (lbk z.o)).trans z.o;replace g:=qh g;clear X S HC;replace B:=qh B;clear z;cases hp:anyA D i (λa b=>!selE a b)
  ·replace hp:=qh hp;go_wp2;go_roundw
   case rel=>exact⟨i+1,by omega,by go_num,g.o,B.o,λj hj=>by
    by_cases e:j=i
    ·subst e;exact hp.o
    exact K.o j (by omega)⟩
   simp[intOf];omega
  replace hp:=qh hp;go_wp2;go_ret;exact⟨g.o,.inr ⟨λh=>absurd (LN.1 h.2 i (by have:=HN.o;omega)) (by rw[hp.o];simp),rfl⟩⟩
 have b4:n=i:=by omega
 subst b4;have c8:¬((n:Int)<(n:Int)):=by omega
 go_wp2;go_ret;exact⟨m.o,.inl ⟨⟨HV.o,LN.2 (λi hi=>K.o i (by rw[HN.o];exact hi))⟩,rfl⟩⟩
def Of(w:World)(G:Ma none w mv D)(o:MSz D)(B:Tab w):Calls prog 62 #[mv] w (TstM (VM D/\AccD D) w):=by
 obtain⟨sv,rfl,u⟩:=G;obtain⟨a,s,b,I,A,C,BB,O,z,_⟩:=u.open;subst z;obtain⟨h,c⟩:=exq<|w.alloc (.cells #[.int .i64 D.kind,.int .i64 D.start,.string D.lead,.slice a D.n s] 24);have d:Below w.heap.size w h:=by rw[c];exact(Below.refl _ w).alloc nlr _
 have l:h.heap[w.heap.size]?=some (.cells #[.int .i64 D.kind,.int .i64 D.start,.string D.lead,.slice a D.n s] 24 (0,0)):=by rw[c];exact han w _
 obtain⟨⟨m0,m1,E,F⟩,_⟩:=cells4 l;have i:=qh<|Sj h (⟨_,rfl,u.kept (Ab d none)⟩:Ma none h (.agg #[.int .i64 D.kind,.int .i64 D.start,.string D.lead,.slice a D.n s]) D) o (B.below d nlr);have g:=qh d;clear d l o B u;rw[c]at m0 m1 E F
 go_enter func62,ntmps62
 go_wp2_with fail
 rw[<-c];clear m0 m1 E F c;refine i.o.mono ?_;rintro r J⟨k,H⟩;have j:=qh<|g.o.trans (k.mono g.o.size);clear k g i
 rcases H with⟨m,rfl⟩|⟨m,rfl⟩
 ·have p:=qh m;clear m;go_wp2;go_ret;exact⟨j.o,.inl ⟨p.o,rfl⟩⟩
 have p:=qh m;clear m;go_wp2;go_ret;exact⟨j.o,.inr ⟨p.o,rfl⟩⟩
def DomE(D:MD)(na:Nat)(x:Nat->Int)(w:World)(r:Ending)(w':World):Prop :=
 Below w.heap.size w w'/\∃z:ByteArray × Nat,r=.returned (.tuple #[.string z.1,.int .i64 (z.2:Int)])/\((VM D/\isWord na x=true/\Dv D na x z)\/(¬(VM D/\isWord na x=true)/\z=(⟨#[]⟩,1)))
def MD.outZ(D:MD):MD:={ D with ain:=λ_ _=>0 }
theorem ZB(D:MD):D.sym (λ_ o=>(0,o))=D.outZ:=rfl
def UN:∀args w,(callFunc 63 args).run prog w=.ok (.enter 63 args) w:=λargs w=>by kernel_rfl
def UO:∀args w,(callFunc 64 args).run prog w=.ok (.enter 64 args) w:=λargs w=>by kernel_rfl
def z1r(w:World)(i o:Int):Calls prog 63 #[.int .i64 i,.int .i64 o] w (λr w'=>r=.returned (.tuple #[.int .i64 i,.int .i64 0])/\w'=w):=by
 go_enter func63,ntmps63
 go_wp2;go_ret2;exact⟨rfl,rfl⟩
def z1s(w:World)(i o:Int):Calls prog 64 #[.int .i64 i,.int .i64 o] w (λr w'=>r=.returned (.tuple #[.int .i64 0,.int .i64 o])/\w'=w):=by
 go_enter func64,ntmps64
 go_wp2;go_ret2;exact⟨rfl,rfl⟩
theorem VM.outZ{D:MD}(h:VM D):VM D.outZ:=h.sym (φ:=λ_ o=>(0,o)) (λi o _ _ c d=>⟨by show (0:Int)<=0;omega,by show (0:Int)<=500;omega,c,d⟩)
def accQ(D E:MD):Prop:=AccD D/\AccD E/\D.kind=E.kind
def CrsE(D E:MD)(w:World)(r:Ending)(w':World):Prop :=
 Below w.heap.size w w'/\((VM D/\VM E/\accQ D E/\
  ((
   dnOk (tmF (Al D.kind D.lead E.lead) 0) (E.n+D.n) (catA D.inZ E.outZ)/\∃sv R,r=.returned (.tuple #[.agg #[.int .i64 D.kind,.int .i64 ((E.n:Int)+D.start),.string (Al D.kind D.lead E.lead).1,sv],.int .i64 0])/\OwM w' w.heap.size sv (catD D.inZ E.outZ (Al D.kind D.lead E.lead).1) R)\/
   (¬dnOk (tmF (Al D.kind D.lead E.lead) 0) (E.n+D.n) (catA D.inZ E.outZ)/\r=.returned (.tuple #[AE,.int .i64 2]))))\/
  (VM D/\VM E/\¬accQ D E/\r=.returned (.tuple #[AE,.int .i64 6]))\/(¬(VM D/\VM E)/\r=.returned (.tuple #[AE,.int .i64 1])))
def OwM.ma{w c:World}{B:Nat}{sv:Value}{D:MD}{R:Nat->Value}(h:OwM w B sv D R)(hb:Below w.heap.size w c):Ma none c (.agg #[.int .i64 D.kind,.int .i64 D.start,.string D.lead,sv]) D:=⟨sv,rfl,h.sts.kept (Ab hb none)⟩
def Jp{D E:MD}{mv nv:Value}(w:World)(hM:Ma none w mv D)(hN:Ma none w nv E)(a3:MSz D)(a4:MSz E)(ht:Tab w)(c8:E.n+D.n<=1000)(c9:Ac D D.n+Ac E E.n<=1000):Calls prog 29 #[mv,nv] w (CrsE D E w):=by
 obtain⟨sv,rfl,hS⟩:=hM;obtain⟨sw,rfl,f5⟩:=hN;obtain⟨a,cp,_,_,_,_,_,_,g4,_⟩:=hS.open;obtain⟨a2,d5,_,_,_,_,_,_,j2,_⟩:=f5.open;subst g4;subst j2;have c7:∀W,Below w.heap.size w W->Ma none W (.agg #[.int .i64 D.kind,.int .i64 D.start,.string D.lead,.slice a D.n cp]) D:=λW h=>⟨_,rfl,hS.kept (Ab h none)⟩;have G:∀W,Below w.heap.size w W->Ma none W (.agg #[.int .i64 E.kind,.int .i64 E.start,.string E.lead,.slice a2 E.n d5]) E:=λW h=>⟨_,rfl,f5.kept (Ab h none)⟩;have A:∀W,Below w.heap.size w W->Tab W:=λW h=>ht.below h nlr;obtain⟨w1,a5⟩:=exq<|w.alloc (.cells #[.int .i64 D.kind,.int .i64 D.start,.string D.lead,.slice a D.n cp] 24);obtain⟨w2,a6⟩:=exq<|w1.alloc (.cells #[.int .i64 E.kind,.int .i64 E.start,.string E.lead,.slice a2 E.n d5] 24);obtain⟨w3,d3⟩:=exq<|w2.alloc (.cells #[.int .i64 0,.int .i64 0,.string ⟨#[]⟩,.slice none 0 0] 24);have g5:w1.heap.size=w.heap.size+1:=by rw[a5];simp
 have h8:w2.heap.size=w.heap.size+1+1:=by rw[a6];simp[g5]
 have h4:Fr (λ_=>False) w w1:=by rw[a5];exact Fr.alloc _ _
 have f8:Fr (λ_=>False) w1 w2:=by rw[a6];exact Fr.alloc _ _
 have d8:Fr (λ_=>False) w2 w3:=by rw[d3];exact Fr.alloc _ _
 have g0:w1.heap[w.heap.size]?=some (.cells #[.int .i64 D.kind,.int .i64 D.start,.string D.lead,.slice a D.n cp] 24 (0,0)):=by rw[a5];exact han w _
 have m:w3.heap[w.heap.size]?=some (.cells #[.int .i64 D.kind,.int .i64 D.start,.string D.lead,.slice a D.n cp] 24 (0,0)):=(d8.block _ (by omega) (λe=>e)).trans ((f8.block _ (lbk g0) (λe=>e)).trans g0);have e5:w2.heap[w.heap.size+1]?=some (.cells #[.int .i64 E.kind,.int .i64 E.start,.string E.lead,.slice a2 E.n d5] 24 (0,0)):=by rw[<-g5,a6];exact han w1 _
 have j:w3.heap[w.heap.size+1]?=some (.cells #[.int .i64 E.kind,.int .i64 E.start,.string E.lead,.slice a2 E.n d5] 24 (0,0)):=(d8.block _ (by omega) (λe=>e)).trans e5;have d:w3.heap[w.heap.size+1+1]?=some (.cells #[.int .i64 0,.int .i64 0,.string ⟨#[]⟩,.slice none 0 0] 24 (0,0)):=by rw[<-h8,d3];exact han w2 _
 have d6:Below w.heap.size w w3:=((h4.trans f8).trans d8).below nlr (λ_ e=>e.elim);obtain⟨mb,d9⟩:=exq<|w.heap.size;obtain⟨nb,g1⟩:=exq<|w.heap.size+1;obtain⟨J,g3⟩:=exq<|w.heap.size+1+1;have Q:w.heap.size<=J:=by omega
 rw[<-d9]at m;rw[<-g1]at j;rw[<-g3]at d;obtain⟨⟨m0,m1,m2,m3⟩,_⟩:=cells4 m;have h0:=qh<|Ds w3 (c7 w3 d6) a3 (A w3 d6);replace c7:=qh c7;clear hS;replace G:=qh G;clear f5;replace A:=qh A;clear ht;have e7:=qh d6;clear d6;have k:=qh m;clear m g0 h4 f8 d8 g5 h8 e5;have g:=qh j;clear j;have c:=qh d;clear d;replace a3:=qh a3;replace a4:=qh a4;replace c8:=qh c8;replace c9:=qh c9;rw[d9,d3,a6,a5]at m0 m1 m2 m3
 go_enter func29,ntmps29
 go_wp2_with fail
 rw[<-a5,<-a6,<-d3,<-g3,<-g1,<-d9];clear m0 m1 m2 m3 a5 a6 d3 d9 g1 g3;refine h0.o.mono ?_;rintro r w4⟨b3,H⟩;have m:=(b3.block _ (lbk k.o)).trans k.o;have j:=(b3.block _ (lbk g.o)).trans g.o;have d:=(b3.block _ (lbk c.o)).trans c.o;have X:=qh<|e7.o.trans (b3.mono e7.o.size);clear b3 k g c h0 e7;have k:=qh m;clear m;have g:=qh j;clear j;have c:=qh d;clear d
 rcases H with⟨hv,rfl⟩|⟨hv,rfl⟩
 rotate_left
 ·have HV:=qh hv;clear hv;obtain⟨⟨r0,r1,r2,r3⟩,l⟩:=cells4 c.o;have f0:=l 0;have f1:=l 1;have f2:=l 2;have f3:=l 3;clear l
  go_wp2_with fail
  exact bodyPost_ret (AH rfl _ (b:=J) rfl rfl (AG w4 J _ _ _ _ c.o)) rfl ⟨AF X.o Q _ _ _ _,.inr (.inr ⟨λh=>HV.o h.1,rfl⟩)⟩
 have HV:=qh hv;clear hv;obtain⟨⟨n0,n1,n2,n3⟩,_⟩:=cells4 g.o;have h3:=qh<|Ds w4 (G.o w4 X.o) a4.o (A.o w4 X.o)
 go_wp2_with fail
 clear n0 n1 n2 n3;refine h3.o.mono ?_;rintro r w5⟨b4,H⟩;have m:=(b4.block _ (lbk k.o)).trans k.o;have j:=(b4.block _ (lbk g.o)).trans g.o;have d:=(b4.block _ (lbk c.o)).trans c.o;have Y:=qh<|X.o.trans (b4.mono X.o.size);clear b4 k g c h3 X;have k:=qh m;clear m;have g:=qh j;clear j;have c:=qh d;clear d
 rcases H with⟨hv,rfl⟩|⟨hv,rfl⟩
 rotate_left
 ·have p:=qh hv;clear hv;obtain⟨⟨r0,r1,r2,r3⟩,l⟩:=cells4 c.o;have f0:=l 0;have f1:=l 1;have f2:=l 2;have f3:=l 3;clear l
  go_wp2_with fail
  exact bodyPost_ret (AH rfl _ (b:=J) rfl rfl (AG w5 J _ _ _ _ c.o)) rfl ⟨AF Y.o Q _ _ _ _,.inr (.inr ⟨λh=>p.o h.2,rfl⟩)⟩
 have p:=qh hv;clear hv;obtain⟨⟨m0,m1,m2,m3⟩,_⟩:=cells4 k.o;have g6:=qh<|Of w5 (c7.o w5 Y.o) a3.o (A.o w5 Y.o)
 go_wp2_with fail
 clear m0 m1 m2 m3;refine g6.o.mono ?_;rintro r w6⟨b5,H⟩;have m:=(b5.block _ (lbk k.o)).trans k.o;have j:=(b5.block _ (lbk g.o)).trans g.o;have d:=(b5.block _ (lbk c.o)).trans c.o;have Z:=qh<|Y.o.trans (b5.mono Y.o.size);clear b5 k g c g6 Y;have k:=qh m;clear m;have g:=qh j;clear j;have c:=qh d;clear d
 rcases H with⟨hq,rfl⟩|⟨hq,rfl⟩
 rotate_left
 ·have a9:=qh<|show ¬accQ D E from λh=>hq ⟨HV.o,h.1⟩;clear hq;obtain⟨⟨r0,r1,r2,r3⟩,l⟩:=cells4 c.o;have f0:=l 0;have f1:=l 1;have f2:=l 2;have f3:=l 3;clear l
  go_wp2_with fail
  exact bodyPost_ret (AH rfl _ (b:=J) rfl rfl (AG w6 J _ _ _ _ c.o)) rfl ⟨AF Z.o Q _ _ _ _,.inr (.inl ⟨HV.o,p.o,a9.o,rfl⟩)⟩
 have i8:=qh hq;clear hq;obtain⟨⟨n0,n1,n2,n3⟩,_⟩:=cells4 g.o;have g7:=qh<|Of w6 (G.o w6 Z.o) a4.o (A.o w6 Z.o)
 go_wp2_with fail
 clear n0 n1 n2 n3;refine g7.o.mono ?_;rintro r w7⟨b6,H⟩;have m:=(b6.block _ (lbk k.o)).trans k.o;have j:=(b6.block _ (lbk g.o)).trans g.o;have d:=(b6.block _ (lbk c.o)).trans c.o;have B:=qh<|Z.o.trans (b6.mono Z.o.size);clear b6 k g c g7 Z;have k:=qh m;clear m;have g:=qh j;clear j;have c:=qh d;clear d
 rcases H with⟨hq,rfl⟩|⟨hq,rfl⟩
 rotate_left
 ·have a9:=qh<|show ¬accQ D E from λh=>hq ⟨p.o,h.2.1⟩;clear hq;obtain⟨⟨r0,r1,r2,r3⟩,l⟩:=cells4 c.o;have f0:=l 0;have f1:=l 1;have f2:=l 2;have f3:=l 3;clear l
  go_wp2_with fail
  exact bodyPost_ret (AH rfl _ (b:=J) rfl rfl (AG w7 J _ _ _ _ c.o)) rfl ⟨AF B.o Q _ _ _ _,.inr (.inl ⟨HV.o,p.o,a9.o,rfl⟩)⟩
 have i9:=qh hq;clear hq;by_cases a1:D.kind=E.kind
 rotate_left
 ·have a9:=qh<|show ¬accQ D E from λh=>a1 h.2.2;obtain⟨⟨r0,r1,r2,r3⟩,l⟩:=cells4 c.o;have f0:=l 0;have f1:=l 1;have f2:=l 2;have f3:=l 3;clear l;have m0:=(cells4 k.o).1.1;have n0:=(cells4 g.o).1.1
  go_wp2_with fail
  exact bodyPost_ret (AH rfl _ (b:=J) rfl rfl (AG w7 J _ _ _ _ c.o)) rfl ⟨AF B.o Q _ _ _ _,.inr (.inl ⟨HV.o,p.o,a9.o,rfl⟩)⟩
 have HQ:=qh<|show accQ D E from ⟨i8.o.2,i9.o.2,a1⟩;replace a1:=qh a1;obtain⟨⟨m0,m1,m2,m3⟩,_⟩:=cells4 k.o;have n0:=(cells4 g.o).1.1;rw[<-a1.o]at n0;have f7:=ES (φ:=λi _=>(i,0)) w7 (c7.o w7 B.o) a3.o (A.o w7 B.o) (GE UN (λw i o=>z1r w i o)) trivial (λ_ _=>trivial);rw[Zy]at f7;have g8:=qh f7;clear f7
 go_wp2_with fail
 clear m0 m1 m2 m3 n0;refine g8.o.mono ?_;rintro r w8⟨d7,H⟩;have j:=(d7.block _ (lbk g.o)).trans g.o;have d:=(d7.block _ (lbk c.o)).trans c.o;have e8:=qh<|B.o.trans (d7.mono B.o.size);have j3:w.heap.size<=w7.heap.size:=B.o.size;clear d7 k g c g8 B;have g:=qh j;clear j;have c:=qh d;clear d
 rcases H with⟨_,j5,R1,rfl,S⟩|⟨d0,_⟩
 rotate_left
 ·exact absurd HV.o d0
 obtain⟨h9,i5,h6,_,_⟩:=AC S.top;subst h6;obtain⟨ib,f9⟩:=exq<|w8.heap.size;obtain⟨w9,d4⟩:=exq<|w8.alloc (.cells #[.int .i64 D.inZ.kind,.int .i64 D.inZ.start,.string D.inZ.lead,.slice h9 D.inZ.n i5] 24);have b9:Below w8.heap.size w8 w9:=by rw[d4];exact(Below.refl _ w8).alloc nlr _
 have F:w9.heap[ib]?=some (.cells #[.int .i64 D.inZ.kind,.int .i64 D.inZ.start,.string D.inZ.lead,.slice h9 D.inZ.n i5] 24 (0,0)):=by rw[d4,f9];exact han w8 _
 have j:=(b9.block _ (lbk g.o)).trans g.o;have d:=(b9.block _ (lbk c.o)).trans c.o;have U:=e8.o.trans<|b9.mono e8.o.size;have b0:=ES (φ:=λ_ o=>(0,o)) w9 (G.o w9 U) a4.o (A.o w9 U) (GE UO (λw i o=>z1s w i o)) trivial (λ_ _=>trivial);rw[ZB]at b0;have e6:=λW (h:Below w8.heap.size w8 W)=>S.ma h;obtain⟨⟨n0,n1,n2,n3⟩,_⟩:=cells4 j;rw[d4]at n0 n1 n2 n3;have e0:=qh b0;clear b0;have e3:=qh e6;clear e6 S;have e9:=qh b9;clear b9;have a8:=qh U;clear U e8;have O:=qh F;clear F;have g:=qh j;clear j;have c:=qh d;clear d
 go_wp2_with fail
 rw[<-f9,<-d4];clear n0 n1 n2 n3 f9 d4;refine e0.o.mono ?_;rintro r a7⟨C,H⟩;have F:=(C.block _ (lbk O.o)).trans O.o;have d:=(C.block _ (lbk c.o)).trans c.o;have b1:=a8.o.trans<|C.mono a8.o.size;have b7:=e9.o.trans<|C.mono e9.o.size;clear C g c O e0 e9;have c:=qh d;clear d;have O:=qh F;clear F;have L:=qh b1;clear b1 a8;have N:=qh b7;clear b7
 rcases H with⟨_,j6,R2,rfl,T⟩|⟨d0,_⟩
 rotate_left
 ·exact absurd p.o d0
 obtain⟨i4,i6,h7,_,_⟩:=AC T.top;subst h7;obtain⟨ob,g2⟩:=exq<|a7.heap.size;obtain⟨K,I⟩:=exq<|a7.alloc (.cells #[.int .i64 E.outZ.kind,.int .i64 E.outZ.start,.string E.outZ.lead,.slice i4 E.outZ.n i6] 24);have s:Below a7.heap.size a7 K:=by rw[I];exact(Below.refl _ a7).alloc nlr _
 have h5:K.heap[ob]?=some (.cells #[.int .i64 E.outZ.kind,.int .i64 E.outZ.start,.string E.outZ.lead,.slice i4 E.outZ.n i6] 24 (0,0)):=by rw[I,g2];exact han a7 _
 have F:=(s.block _ (lbk O.o)).trans O.o;have d:=(s.block _ (lbk c.o)).trans c.o;have P:=L.o.trans<|s.mono L.o.size;have b8:=N.o.trans<|s.mono N.o.size;have e4:=Tu K (e3.o K b8) (T.ma s) ({ a3.o with }:MSz D.inZ) ({ a4.o with }:MSz E.outZ) (A.o K P) c8.o (by
  have h1:Ac D.inZ D.n=Ac D D.n:=Jc D D.n;have h2:Ac E.outZ E.n=Ac E E.n:=Jd (λ_ o=>(0,o)) E E.n;have:=c9.o;show Ac D.inZ D.n+Ac E.outZ E.n<=1000;rw[h1,h2];exact this)
 obtain⟨⟨o0,o1,o2,o3⟩,_⟩:=cells4 h5;obtain⟨⟨i0,i1,i2,i3⟩,_⟩:=cells4 F;rw[I]at o0 o1 o2 o3 i0 i1 i2 i3;rw[g2]at o0 o1 o2 o3;have e2:=qh e4;clear e4;have u:=qh P;clear P L b8 N s T e3;have c:=qh d;clear d F h5 O
 go_wp2_with fail
 rw[<-I];clear o0 o1 o2 o3 i0 i1 i2 i3 I g2;refine e2.o.mono ?_;rintro r i7⟨b2,H⟩;have d:=(b2.block _ (lbk c.o)).trans c.o;have e1:=qh<|u.o.trans (b2.mono u.o.size);have j0:w.heap.size<=K.heap.size:=u.o.size;clear b2 e2 u c;have c:=qh d;clear d;obtain⟨⟨r0,r1,r2,r3⟩,l⟩:=cells4 c.o;have f0:=l 0;have f1:=l 1;have f2:=l 2;have f3:=l 3;clear l;unfold AE at H
 rcases H with⟨-,-,-,H⟩|⟨_,_,j1,_⟩|⟨d0,_⟩
 rotate_left
 ·exact absurd a1.o j1
 ·exact absurd ⟨HV.o.inZ,p.o.outZ⟩ d0
 obtain⟨z,hz⟩:=exq<|Al D.kind D.lead E.lead;rw[show Al D.inZ.kind D.inZ.lead E.outZ.lead=z from hz.symm]at H;replace hz:=qh hz
 rcases H with⟨d1,j4,R,rfl,d2⟩|⟨d1,rfl⟩
 ·obtain⟨sa,sc,g4,_,_⟩:=AC d2.top;subst g4;have g9:=qh<|DI (d2.box4 c.o (.int .i64 D.inZ.kind) (.int .i64 ((E.outZ.n:Int)+D.inZ.start)) (.string z.1) (.slice sa (catD D.inZ E.outZ z.1).n sc)) j0;clear d2;have f4:=qh d1;clear d1
  go_wp2_with fail
  refine bodyPost_ret (AH rfl _ (b:=J) rfl rfl (AG i7 J _ _ _ _ c.o)) rfl ⟨AF e1.o Q _ _ _ _,.inl ⟨HV.o,p.o,HQ.o,.inl ⟨?_,.slice sa (catD D.inZ E.outZ z.1).n sc,R,?_,?_⟩⟩⟩
  ·rw[<-hz.o];exact f4.o
  ·rw[<-hz.o];rfl
  rw[<-hz.o];exact g9.o
 have f4:=qh d1;clear d1
 go_wp2_with fail
 refine bodyPost_ret (AH rfl _ (b:=J) rfl rfl (AG i7 J _ _ _ _ c.o)) rfl ⟨AF e1.o Q _ _ _ _,.inl ⟨HV.o,p.o,HQ.o,.inr ⟨?_,rfl⟩⟩⟩;rw[<-hz.o];exact f4.o
end
section
open Go CSR
variable{D:MD}{k:KK}{na nb:Nat}{x y:Nat->Int}{s:ByteArray}
def finB(k:Int)(s:ByteArray):Bool:=decide (s=⟨#[]⟩)||Aw k s
def arcB(D:MD)(i k:Nat):Bool:=(decide (0<=D.ain i k)&&decide (D.ain i k<=500))&&(decide (0<=D.aout i k)&&decide (D.aout i k<=500))&&(decide (0<=D.ato i k)&&decide (D.ato i k<(D.n:Int)))&&Aw D.kind (D.aw i k)
def vmB(D:MD):Bool:=Ao D.kind&&(decide (1<=D.n)&&decide (D.n<=3000))&&(decide (0<=D.start)&&decide (D.start<(D.n:Int)))&&Aw D.kind D.lead&&decide (Ac D D.n<=30000)&&((List.range D.n).all λi=>finB D.kind (D.fin i)&&(List.range (D.na i)).all λk=>arcB D i k)
def BQ(h:vmB D=true):VM D:=by
 unfold vmB at h;simp only[Bool.and_eq_true,decide_eq_true_eq,List.all_eq_true,List.mem_range]at h;obtain⟨⟨⟨⟨⟨l,m,o⟩,p,s⟩,u⟩,z⟩,j⟩:=h;refine⟨l,m,o,p,s,u,z,λi hi=>?_,λi k hi A=>?_⟩
 ·have:=(j i hi).1;unfold finB at this
  simpa using this
 have:=(j i hi).2 k A;unfold arcB at this;simp only[Bool.and_eq_true,decide_eq_true_eq]at this;obtain⟨⟨⟨⟨a,b⟩,c,d⟩,e,f⟩,g⟩:=this;exact⟨a,b,c,d,e,f,g⟩
instance (v:V):Decidable (fitV v):=by cases v<;>unfold fitV<;>infer_instance
def Nv{k:KK}(n p:Nat)(M:Nat->Nat->RK k):Bool:=decide (fitV (CSR.star (M p p)).1)&&(List.range n).all λi=>decide (fitV (M i p*CSR.star (M p p)).1)&&(List.range n).all λj =>
 decide (fitV (M i p*CSR.star (M p p)*M p j).1)&&decide (fitV (CSR.elim p M i j).1)
def JH{k:KK}(n:Nat)(M:Nat->Nat->RK k):Bool:=((List.range n).all λp=>Nv n p (CSR.elims M p))&&(List.range n).all λi=>decide (fitV (CSR.elims M n i i+CSR.one).1)
def Ve{n:Nat}{M:Nat->Nat->RK k}(h:JH n M=true):FitM n M:=by
 unfold JH at h;simp only[Bool.and_eq_true,decide_eq_true_eq,List.all_eq_true,List.mem_range]at h;refine⟨λp d=>?_,h.2⟩;have h:=h.1 p d;unfold Nv at h;simp only[Bool.and_eq_true,decide_eq_true_eq,List.all_eq_true,List.mem_range]at h;exact⟨h.1,λi hi=>(h.2 i hi).1,λi j hi c=>((h.2 i hi).2 j c).1,λi j hi c=>((h.2 i hi).2 j c).2⟩
def selB(D:MD):Bool:=(List.range D.n).any λq=>(List.range (D.na q)).any λd=>silB (D.ain q d) (D.aout q d)
def Hz:NoSel D silB↔selB D=false:=by
 unfold selB NoSel;simp only[List.any_eq_false,List.mem_range,Bool.not_eq_true];exact⟨λh q g d c=>h q d g c,λh q d g c=>h q g d c⟩
def VOk(D:MD)(na:Nat)(x:Nat->Int)(nb:Nat)(y:Nat->Int)(s:ByteArray):Prop:=VM D/\isWord na x=true/\isWord nb y=true/\∀st e,SilOk D silB st e->wgtG D st e na x nb y=(s,0)
def Qt(k:KK)(D:MD)(T:Nat->Nat->ByteArray):Bool:=(List.range D.n).all λq=>(List.range D.n).all λp=>decide (Li k D silB q p=T q p)
def vokB(k:KK)(D:MD)(T:Nat->Nat->ByteArray)(na:Nat)(x:Nat->Int)(nb:Nat)(y:Nat->Int)(s:ByteArray):Bool :=
 (decide (k.1=D.kind)&&(isWord na x&&isWord nb y))&&(decide (D.n<=60)&&decide (serr D silB D.n=0))&&(if selB D then decide (wgtG D (some T) 0 na x nb y=(s,0)) else decide (wgtG D none 0 na x nb y=(s,0)))
def IP{T:Nat->Nat->ByteArray}(l:VM D)(hf:JH D.n (λi j=>wval k (smat D silB i j))=true)(d:Qt k D T=true)(h:vokB k D T na x nb y s=true):VOk D na x nb y s:=by
 unfold vokB at h;simp only[Bool.and_eq_true,decide_eq_true_eq]at h;obtain⟨⟨⟨o,u,z⟩,A,B⟩,c⟩:=h;refine⟨l,u,z,λst e G=>?_⟩
 rcases G.closed l o A B (Ve hf) (na:=na) (x:=x) (nb:=nb) (y:=y) with⟨g,hb⟩|⟨g,hb⟩
 ·rw[Hz.1 hb]at c;rw[g];simpa using c
 have C:selB D=true:=by
  cases m:selB D
  ·exact absurd (Hz.2 m) hb
  rfl
 rw[C]at c;rw[g,Rw (S':=T) λq p F E=>?_]
 ·simpa using c
 unfold Qt at d;simp only[List.all_eq_true,List.mem_range,decide_eq_true_eq]at d;exact d q F p E
def Eo(l:VM D)(g:selB D=false)(h:(isWord na x&&isWord nb y&&decide (wgtG D none 0 na x nb y=(s,0)))=true):VOk D na x nb y s:=by
 simp only[Bool.and_eq_true,decide_eq_true_eq]at h;obtain⟨⟨i,j⟩,k⟩:=h;refine⟨l,i,j,λst e d=>?_⟩
 rcases d with⟨_,rfl,rfl⟩|⟨c,_⟩|⟨c,_⟩
 ·exact k
 ·exact absurd (Hz.2 g) c
 exact absurd (Hz.2 g) c
def kTr:KK:=⟨1,.inl rfl⟩
def mD:MD:={ kind:=1,start:=0,lead:=⟨#[48]⟩,n:=2,fin:=λi=>if i=0 then ⟨#[]⟩ else ⟨#[48]⟩,na:=λi=>if i=0 then 2 else 0,ain:=λ_ _=>1,aout:=λ_ d=>if d=0 then 2 else 3,aw:=λ_ d=>if d=0 then ⟨#[49]⟩ else ⟨#[50]⟩,ato:=λ_ _=>1 }
def y12:Nat->Int:=λi=>if i=0 then 1 else 2
def y21:Nat->Int:=λi=>if i=0 then 2 else 1
def c1:Nat->Int:=λ_=>1
def c2:Nat->Int:=λ_=>2
def c3:Nat->Int:=λ_=>3
def dD:MD:=BY 1 2 y12 1 c3 ⟨#[51]⟩
def abD:MD:=BY 1 2 y12 2 y12 ⟨#[49]⟩
def kD:MD:=BY 1 1 c3 1 c3 ⟨#[50]⟩
def cD:MD:=catD abD.inZ kD.outZ (Al abD.kind abD.lead kD.lead).1
def nD:MD:=mD.ren<|mapF 1 c2 c3
def Eg:VM mD:=BQ (by decide +kernel)
def MO:VM dD:=BQ (by decide +kernel)
def Pk:VM (revD dD):=BQ (by decide +kernel)
def LM:VM abD:=BQ (by decide +kernel)
def NL:VM kD:=BQ (by decide +kernel)
def Te:VM cD:=BQ (by decide +kernel)
def Wy:VM nD:=BQ (by decide +kernel)
def UU:VOk mD.inv 1 c2 1 c1 ⟨#[49]⟩:=Eo (BQ (by decide +kernel)) (by decide +kernel) (by decide +kernel)
def UV:VOk mD.inv 1 c1 1 c2 ⟨#[105,110,102]⟩:=Eo (BQ (by decide +kernel)) (by decide +kernel) (by decide +kernel)
def ex_b:VOk mD.inR 1 c1 1 c1 ⟨#[49]⟩:=Eo (BQ (by decide +kernel)) (by decide +kernel) (by decide +kernel)
def ex_c:VOk mD.outR 1 c3 1 c3 ⟨#[50]⟩:=Eo (BQ (by decide +kernel)) (by decide +kernel) (by decide +kernel)
def ex_n:VOk nD 1 c1 1 c3 ⟨#[49]⟩:=Eo Wy (by decide +kernel) (by decide +kernel)
def tR(q p:Nat):ByteArray:=if q=p then ⟨#[48]⟩ else if q=3/\p=2 then ⟨#[48]⟩ else ⟨#[105,110,102]⟩
def tC(q p:Nat):ByteArray:=if q=p then ⟨#[48]⟩ else if q=4/\p=0 then ⟨#[48]⟩ else ⟨#[105,110,102]⟩
def ex_d:VOk (revD dD) 2 y21 1 c3 ⟨#[51]⟩:=IP (k:=kTr) (T:=tR) Pk (by decide +kernel) (by decide +kernel) (by decide +kernel)
def ex_k:VOk cD 2 y12 1 c3 ⟨#[51]⟩:=IP (k:=kTr) (T:=tC) Te (by decide +kernel) (by decide +kernel) (by decide +kernel)
end
section
open Go.RowKit Go.Deep
variable{x y:Nat->Int}{D:MD}{w:World}{b i n na nb:Nat}{c:Array Value}{t:TypeId}{f:Nat × Nat}{p:Nat->Prop}
def allocs(w:World)(l:List Obj):World:=l.foldl World.alloc w
theorem IZ:∀(l:List Obj) (w a:World) (B:Nat),Below B a w->B<=w.heap.size->Below B a (allocs w l)
 | [],_,_,_,h,_=>h
 |o::l,w,a,B,h,hB=>IZ l (w.alloc o) a B (h.alloc hB o) (by simp;omega)
theorem LV:∀(l:List Obj) (w:World) {q:Nat},q<w.heap.size->(allocs w l).heap[q]?=w.heap[q]?
 | [],_,_,_=>rfl
 |o::l,w,q,h=>(LV l (w.alloc o) (by simp;omega)).trans (blk_alloc_lt _ _ _ h)
theorem Ep:∀(l:List Obj) (w:World) {i:Nat} {o:Obj},l[i]?=some o->(allocs w l).heap[w.heap.size+i]?=some o
 | [],_,_,_,h=>by simp at h
 |o'::l,w,0,o,h=>by
  simp at h;subst h;exact(LV l (w.alloc o') (by simp)).trans (han w o')
 |o'::l,w,i+1,o,h=>by
  have:=Ep l (w.alloc o') (i:=i) (o:=o) (by simpa using h);rw[show (w.alloc o').heap.size+i=w.heap.size+(i+1) by simp;omega]at this;exact this
def Cr(h:w.heap[b]?=some (.cells c t f))(hn:n<=maxLen)(d:∀i,i<n->c[i]?=some (.int .i64 (x i))):Si none w (.slice (some (Ad b 0)) n n) n x :=
 .inr ⟨b,0,n,rfl,⟨lbk h,by simp⟩,nlr,hn,λi hi=>by rw[Nat.zero_add];exact cellOf h i (d i hi)⟩
def Qg(w:World)(x:Nat->Int):Si none w (.slice none 0 0) 0 x:=.inl ⟨rfl,none,0,rfl,Nat.zero_le _⟩
def lt1(h:p 0):∀i,i<1->p i:=λi hi=>by
 have:i=0:=by omega
 subst this;exact h
def lt2(h:p 0)(c:p 1):∀i,i<2->p i:=λi hi=>by
 have:i=0\/i=1:=by omega
 rcases this with rfl|rfl<;>assumption
def CM:1<=maxLen:=by unfold maxLen;omega
def Dx:2<=maxLen:=by unfold maxLen;omega
def Me(h:w.heap[b]?=some (.cells c t f))(hn:D.na i<=maxLen)
  (d:∀k,k<D.na i->c[k*4]?=some (.int .i64 (D.ain i k))/\c[k*4+1]?=some (.int .i64 (D.aout i k))/\c[k*4+2]?=some (.string (D.aw i k))/\c[k*4+3]?=some (.int .i64 (D.ato i k))):ArS none w (.slice (some (Ad b 0)) (D.na i) (D.na i)) D i :=
 .inr ⟨b,0,D.na i,rfl,⟨lbk h,by simp⟩,nlr,hn,λk g=>by
  obtain⟨c1,c2,c3,c4⟩:=d k g;rw[Nat.zero_add];exact⟨cellOf h _ c1,cellOf h _ c2,cellOf h _ c3,cellOf h _ c4⟩⟩
def Mf(w:World)(h:D.na i=0):ArS none w (.slice none 0 0) D i:=.inl ⟨h,none,0,rfl,Nat.zero_le _⟩
def Qx{A:Nat->Value}(h:w.heap[b]?=some (.cells c t f))(hn:D.n<=maxLen)
  (d:∀i,i<D.n->c[i*2]?=some (.string (D.fin i))/\c[i*2+1]?=some (A i)/\ArS none w (A i) D i):StS none w (.slice (some (Ad b 0)) D.n D.n) D :=
 .inr ⟨b,0,D.n,A,rfl,⟨lbk h,by simp⟩,nlr,hn,λi hi=>by
  obtain⟨c1,c2,c3⟩:=d i hi;rw[Nat.zero_add];exact⟨cellOf h _ c1,cellOf h _ c2,c3⟩⟩
def If(h:w.heap[b]?=some (.cells c t f))(hn:n<=maxLen)(d:∀i,i<n->c[i*2]?=some (.int .i64 (x i))/\c[i*2+1]?=some (.int .i64 (y i))):PrS none w (.slice (some (Ad b 0)) n n) n x y :=
 .inr ⟨b,0,n,rfl,⟨lbk h,by simp⟩,nlr,hn,λi hi=>by
  rw[Nat.zero_add];exact⟨cellOf h _ (d i hi).1,cellOf h _ (d i hi).2⟩⟩
def BO:MSz mD:=⟨by decide,λi=>by show (if i=0 then (⟨#[]⟩:ByteArray) else ⟨#[48]⟩).size<=_;split<;>decide,λi d=>by show (if d=0 then (⟨#[49]⟩:ByteArray) else ⟨#[50]⟩).size<=_;split<;>decide,λi=>by show (if i=0 then 2 else 0)<=_;split<;>omega,by decide,by decide⟩
theorem RA{kind:Int}{na:Nat}{x:Nat->Int}{nb:Nat}{y:Nat->Int}{v:ByteArray}(hk:Ao kind=true)(hx:∀i,0<=atW na x i/\atW na x i<=500)(hy:∀i,0<=atW nb y i/\atW nb y i<=500){N:Nat}:∀i,i<N->BOk (AU kind na x nb y v i) N i
 |0,_=>(BOk.empty kind 0 v N).state (.inl rfl) nzl
 |i+1,hi=>by
  have ih:=RA (v:=v) hk hx hy i (N:=N) (by omega);have hkk:((AU kind na x nb y v i).state ⟨#[]⟩).kind=kind:=(IU kind na x nb y v i).1;exact(ih.state (s:=⟨#[]⟩) (.inl rfl) nzl).put (hx i) (hy i) (by constructor<;>omega) (by rw[hkk];exact Kn hk) (Km hk)
def IS{kind:Int}{v:ByteArray}(c:Ao kind=true)(k:∀i,0<=atW na x i/\atW na x i<=500)(l:∀i,0<=atW nb y i/\atW nb y i<=500)(j:smS v)(hn:max na nb<=1000):MSz (BY kind na x nb y v):=by
 have d:=(IU kind na x nb y v (max na nb));have g:=(RA (v:=v) c k l (N:=max na nb+1) (max na nb) (by omega)).setFin (q:=max na nb) (s:=oneF kind) (.inr (by rw[d.1];exact Kn c)) (Km c);have h:(BY kind na x nb y v).n=max na nb+1:=Dj kind na x nb y v _;exact g.msz (by show Ao (AU kind na x nb y v (max na nb)).kind=true;rw[d.1];exact c) (by show (AU kind na x nb y v (max na nb)).n<=_;rw[Dj];omega) (by show smS (AU kind na x nb y v (max na nb)).lead;rw[d.2.2];exact j) (by omega)
def DW(h:∀i,0<=x i/\x i<=500)(i:Nat):0<=atW n x i/\atW n x i<=500:=by unfold atW;split;exact h i;omega
def LH(i:Nat):0<=y12 i/\y12 i<=500:=by unfold y12;split<;>omega
def MN:MSz dD:=IS (by decide) (DW LH) (DW λ_=>by unfold c3;omega) (by unfold smS;decide) (by decide)
def LL:MSz abD:=IS (by decide) (DW LH) (DW LH) (by unfold smS;decide) (by decide)
def NK:MSz kD:=IS (by decide) (DW λ_=>by unfold c3;omega) (DW λ_=>by unfold c3;omega) (by unfold smS;decide) (by decide)
def XF:MSz (revD dD):=KJ MO MN
def MB{E:MD}(c:VM D)(g:MSz D)(d:VM E)(h:MSz E)(m:E.kind=D.kind){lead:ByteArray}(o:smS lead):MSz (catD D E lead):=by
 obtain⟨i,j,k,l⟩:=MA c g d h m lead;have:=c.n2;have:=d.n2;have:=c.arcs;have:=d.arcs;exact i.msz (by rw[k];exact c.kind) (by rw[j];omega) (by rw[l];exact o) (by omega)
def Td:MSz cD:=MB LM.inZ { LL with } (VM.outZ NL) { NK with } (by decide +kernel) (by unfold smS;decide +kernel)
def TrueB(w:World)(r:Ending)(w':World):Prop:=r=.returned (.bool true)/\Below w.heap.size w w'
def NewD(D:MD)(w:World)(r:Ending)(w':World):Prop:=Below w.heap.size w w'/\∃sv,r=.returned (.agg #[.int .i64 D.kind,.int .i64 D.start,.string D.lead,sv])/\StS none w' sv D
def Dr(w:World):Calls prog 39 #[] w (NewD mD w):=by
 go_enter func39,ntmps39
 go_wp2_with fail
 obtain⟨l,c⟩:∃l,l=[Obj.cells #[.int .i64 1,.int .i64 0,.string ⟨#[48]⟩,.slice (some (Ad (w.heap.size+2) 0)) 2 2] 24,.cells #[.int .i64 1,.int .i64 2,.string ⟨#[49]⟩,.int .i64 1,.int .i64 1,.int .i64 3,.string ⟨#[50]⟩,.int .i64 1] 59,
  .cells #[.string ⟨#[]⟩,.slice (some (Ad (w.heap.size+1) 0)) 2 2,.string ⟨#[48]⟩,.slice none 0 0] 57]:=⟨_,rfl⟩
 have g:(allocs w l).heap[w.heap.size+0]?=_:=Ep l w (i:=0) (by rw[c];rfl);have j:(allocs w l).heap[w.heap.size+1]?=_:=Ep l w (i:=1) (by rw[c];rfl);have k:(allocs w l).heap[w.heap.size+2]?=_:=Ep l w (i:=2) (by rw[c];rfl);have d:=IZ l w w w.heap.size blr nlr;subst c;refine bodyPost_ret (KG rfl _ (b:=w.heap.size) rfl g) rfl ⟨d,_,rfl,?_⟩;refine Qx (D:=mD) (A:=λi=>if i=0 then .slice (some (Ad (w.heap.size+1) 0)) 2 2 else .slice none 0 0) k Dx (λi hi=>?_)
 have h:i=0\/i=1:=by have:i<2:=hi;omega
 rcases h with rfl|rfl
 ·exact⟨rfl,rfl,Me (D:=mD) (i:=0) j Dx (lt2 ⟨rfl,rfl,rfl,rfl⟩ ⟨rfl,rfl,rfl,rfl⟩)⟩
 exact⟨rfl,rfl,Mf _ rfl⟩
def CS{mv N O:Value}{s:ByteArray}(w:World)(P:Ma none w mv D)(I:MSz D)(J:Tab w)(F:Si none w N na x)(G:Si none w O nb y)(A:na<=100)(B:nb<=100)(o:VOk D na x nb y s):
  Calls prog 41 #[mv,N,O] w (λr w'=>r=.returned (.string s)/\Below w.heap.size w w'):=by
 obtain⟨sv,rfl,z⟩:=P;obtain⟨a,i,_,_,_,_,_,_,E,_⟩:=z.open;obtain⟨R,T,rfl⟩:=F.shape;obtain⟨S,U,rfl⟩:=G.shape;subst E;obtain⟨j,g⟩:=exq<|w.alloc (.cells #[.int .i64 D.kind,.int .i64 D.start,.string D.lead,.slice a D.n i] 24);have l:Fr (λ_=>False) w j:=by rw[g];exact Fr.alloc _ _
 have c:Below w.heap.size w j:=l.below nlr (λ_ e=>e.elim);have H:=qh<|z0e j (⟨_,rfl,z.kept (Ab c none)⟩:Ma none j (.agg #[.int .i64 D.kind,.int .i64 D.start,.string D.lead,.slice a D.n i]) D) I (J.below c nlr) (F.kept (Ab c none)) (G.kept (Ab c none)) (by omega) (by omega);have m:j.heap[w.heap.size]?=some (.cells #[.int .i64 D.kind,.int .i64 D.start,.string D.lead,.slice a D.n i] 24 (0,0)):=by rw[g];exact han w _
 obtain⟨⟨m0,m1,K,L⟩,_⟩:=cells4 m;have h:=qh c;clear c l F G z J I m A B;have d:=qh o;clear o;rw[g]at m0 m1 K L
 go_enter func41,ntmps41
 go_wp2_with fail
 rw[<-g];clear g m0 m1 K L;refine H.o.mono ?_;rintro r W⟨k,Q⟩;have u:=qh<|h.o.trans (k.mono h.o.size);clear k h H
 rcases Q with⟨_,_,_,st,e,p,rfl⟩|⟨C,rfl⟩
 rotate_left
 ·exact absurd ⟨d.o.1,d.o.2.1,d.o.2.2.1⟩ C
 rw[d.o.2.2.2 st e p];clear p d;go_wp2;go_ret;exact⟨rfl,u.o⟩
end
section
open Go.RowKit Go.Deep
variable{B:Nat}{R:Nat->Value}
def Has(W:World)(b:Nat)(k s:Int)(l:ByteArray)(a:Option Addr)(n c:Nat)(D:MD):Prop :=
 W.heap[b]?=some (.cells #[.int .i64 k,.int .i64 s,.string l,.slice a n c] 24 (0,0))/\(k=D.kind/\s=D.start/\l=D.lead)/\∃R,OwM W 0 (.slice a n c) D R
def OO{w c:World}{sv:Value}{D:MD}(h:OwM w B sv D R)(hb:Below w.heap.size w c):OwM c B sv D R :=
 ⟨Bn h.top (Ab hb none) (λ_ _=>by simp),λi hi=>Bn (h.row i hi) (Ab hb none) (λ_ _=>by simp),h.apart⟩
variable{W W':World}{b rb:Nat}{k s:Int}{l:ByteArray}{a:Option Addr}{n c:Nat}{D:MD}
def Has.on(h:Has W b k s l a n c D)(hb:Below W.heap.size W W'):Has W' b k s l a n c D:=⟨(hb.block b (lbk h.1)).trans h.1,h.2.1,by obtain⟨R,d⟩:=h.2.2;exact⟨R,OO d hb⟩⟩
theorem Has.ma(h:Has W b k s l a n c D):Ma none W (.agg #[.int .i64 k,.int .i64 s,.string l,.slice a n c]) D:=by
 obtain⟨_,⟨rfl,rfl,rfl⟩,R,d⟩:=h;exact d.ma blr
def Has.set(h:Has W b k s l a n c D){c0 c1 c2 c3:Value}(m:W.heap[rb]?=some (.cells #[c0,c1,c2,c3] 24 (0,0)))(d:b≠rb)(o p u z:Value):Has ((((W.setCell (Ad rb 0) o).setCell (Ad rb 1) p).setCell (Ad rb 2) u).setCell (Ad rb 3) z) b k s l a n c D:=by
 obtain⟨g,i,R,j⟩:=h;refine⟨?_,i,R,j.box4 m _ _ _ _⟩;rw[Ar d,Ar d,Ar d,Ar d];exact g
def Has.new(h:OwM W B (.slice a n c) D R)(e:k=D.kind/\s=D.start/\l=D.lead):Has (W.alloc (.cells #[.int .i64 k,.int .i64 s,.string l,.slice a n c] 24)) W.heap.size k s l a n c D :=
 ⟨han W _,e,R,DI (OO h ((Below.refl _ W).alloc nlr _)) nzl⟩
theorem Has.put{c0 c1 c2 c3:Value}(h:OwM W B (.slice a n c) D R)(d:W.heap[rb]?=some (.cells #[c0,c1,c2,c3] 24 (0,0)))(e:k=D.kind/\s=D.start/\l=D.lead):Has ((((W.setCell (Ad rb 0) (.int .i64 k)).setCell (Ad rb 1) (.int .i64 s)).setCell (Ad rb 2) (.string l)).setCell (Ad rb 3) (.slice a n c)) rb k s l a n c D :=
 ⟨AG W rb _ _ _ _ d,e,R,DI (h.box4 d _ _ _ _) nzl⟩
def RR:AccD abD:=by
 have h:∀q,q<abD.n->∀d,d<abD.na q->abD.aout q d=abD.ain q d:=by decide +kernel
 exact λq d g c=>h q g d c
def RV:AccD kD:=by
 have h:∀q,q<kD.n->∀d,d<kD.na q->kD.aout q d=kD.ain q d:=by decide +kernel
 exact λq d g c=>h q g d c
def TZ:dnOk (tmF (Al abD.kind abD.lead kD.lead) 0) (kD.n+abD.n) (catA abD.inZ kD.outZ):=by unfold dnOk;decide +kernel
def CH(w:World)(ht:Tab w):Calls prog 15 #[] w (TrueB w):=by
 have B:=qh<|show ∀W,Below w.heap.size w W->Tab W from λW h=>ht.below h nlr;clear ht;have c:=qh<|Below.refl w.heap.size w
 go_enter func15,ntmps15
 go_wp2_with fail
 refine(Dr w).mono ?_;rintro r w1⟨hb,sv,rfl,hS⟩;replace c:=qh<|c.o.trans (hb.mono c.o.size);clear hb;have d:=qh<|NG w1 (⟨_,rfl,hS⟩:Ma none w1 (.agg #[.int .i64 mD.kind,.int .i64 mD.start,.string mD.lead,sv]) mD) BO (B.o w1 c.o);clear hS
 go_wp2_with fail
 refine d.o.mono ?_;rintro r w2⟨hb,hr⟩;replace c:=qh<|c.o.trans (hb.mono c.o.size);clear hb;clear d
 rcases hr with⟨_,K,R,rfl,g⟩|⟨u,_⟩
 rotate_left
 ·exact absurd Eg u
 obtain⟨m7,o2,A,_,_⟩:=AC g.top;subst A;obtain⟨w3,b6⟩:=exq<|w2.alloc (.cells #[.int .i64 (mD.inv.kind),.int .i64 (mD.inv.start),.string (mD.inv.lead),.slice m7 (mD.inv).n o2] 24);obtain⟨i3,g8⟩:=exq<|w2.heap.size;have o9:w3.heap.size=w2.heap.size+1:=by rw[b6];simp
 have hb:Below w2.heap.size w2 w3:=by rw[b6];exact(Below.refl _ w2).alloc nlr _
 have m:Has w3 i3 (mD.inv.kind) (mD.inv.start) (mD.inv.lead) m7 (mD.inv).n o2 (mD.inv):=by rw[g8,b6];exact Has.new g ⟨rfl,rfl,rfl⟩
 clear g;replace c:=qh<|c.o.trans (hb.mono c.o.size);clear hb;have i:=qh m;clear m;obtain⟨bA,i2⟩:∃x,x=i3:=⟨_,rfl⟩;rw[<-i2]at i
 go_wp2_with fail
 rw[<-g8,<-b6];rw[<-i2];clear b6 o9 g8;clear i2;refine(Dr w3).mono ?_;rintro r w4⟨hb,sv,rfl,hS⟩;replace i:=qh<|i.o.on hb;replace c:=qh<|c.o.trans (hb.mono c.o.size);clear hb;have d:=qh<|JL w4 (⟨_,rfl,hS⟩:Ma none w4 (.agg #[.int .i64 mD.kind,.int .i64 mD.start,.string mD.lead,sv]) mD) BO (B.o w4 c.o);clear hS
 go_wp2_with fail
 refine d.o.mono ?_;rintro r w5⟨hb,hr⟩;replace i:=qh<|i.o.on hb;replace c:=qh<|c.o.trans (hb.mono c.o.size);clear hb;clear d
 rcases hr with⟨_,K,R,rfl,g⟩|⟨u,_⟩
 rotate_left
 ·exact absurd Eg u
 obtain⟨m8,o3,A,_,_⟩:=AC g.top;subst A;obtain⟨w6,b7⟩:=exq<|w5.alloc (.cells #[.int .i64 (mD.inR.kind),.int .i64 (mD.inR.start),.string (mD.inR.lead),.slice m8 (mD.inR).n o3] 24);obtain⟨i6,g9⟩:=exq<|w5.heap.size;have p0:w6.heap.size=w5.heap.size+1:=by rw[b7];simp
 have hb:Below w5.heap.size w5 w6:=by rw[b7];exact(Below.refl _ w5).alloc nlr _
 have m:Has w6 i6 (mD.inR.kind) (mD.inR.start) (mD.inR.lead) m8 (mD.inR).n o3 (mD.inR):=by rw[g9,b7];exact Has.new g ⟨rfl,rfl,rfl⟩
 clear g;replace i:=qh<|i.o.on hb;replace c:=qh<|c.o.trans (hb.mono c.o.size);clear hb;have j:=qh m;clear m;obtain⟨bB,i4⟩:∃x,x=i6:=⟨_,rfl⟩;rw[<-i4]at j
 go_wp2_with fail
 rw[<-g9,<-b7];rw[<-i4];clear b7 p0 g9;clear i4;refine(Dr w6).mono ?_;rintro r w7⟨hb,sv,rfl,hS⟩;replace i:=qh<|i.o.on hb;replace j:=qh<|j.o.on hb;replace c:=qh<|c.o.trans (hb.mono c.o.size);clear hb;have d:=qh<|Ia w7 (⟨_,rfl,hS⟩:Ma none w7 (.agg #[.int .i64 mD.kind,.int .i64 mD.start,.string mD.lead,sv]) mD) BO (B.o w7 c.o);clear hS
 go_wp2_with fail
 refine d.o.mono ?_;rintro r w8⟨hb,hr⟩;replace i:=qh<|i.o.on hb;replace j:=qh<|j.o.on hb;replace c:=qh<|c.o.trans (hb.mono c.o.size);clear hb;clear d
 rcases hr with⟨_,K,R,rfl,g⟩|⟨u,_⟩
 rotate_left
 ·exact absurd Eg u
 obtain⟨m9,o4,A,_,_⟩:=AC g.top;subst A;obtain⟨w9,b8⟩:=exq<|w8.alloc (.cells #[.int .i64 (mD.outR.kind),.int .i64 (mD.outR.start),.string (mD.outR.lead),.slice m9 (mD.outR).n o4] 24);obtain⟨i9,h0⟩:=exq<|w8.heap.size;have h1:w9.heap.size=w8.heap.size+1:=by rw[b8];simp
 have hb:Below w8.heap.size w8 w9:=by rw[b8];exact(Below.refl _ w8).alloc nlr _
 have m:Has w9 i9 (mD.outR.kind) (mD.outR.start) (mD.outR.lead) m9 (mD.outR).n o4 (mD.outR):=by rw[h0,b8];exact Has.new g ⟨rfl,rfl,rfl⟩
 clear g;replace i:=qh<|i.o.on hb;replace j:=qh<|j.o.on hb;replace c:=qh<|c.o.trans (hb.mono c.o.size);clear hb;have k:=qh m;clear m;obtain⟨bC,i5⟩:∃x,x=i9:=⟨_,rfl⟩;rw[<-i5]at k;obtain⟨a6,P⟩:=exq<|w9.alloc (.cells #[.int .i64 1,.int .i64 2] 3);obtain⟨k0,c7⟩:=exq<|w8.heap.size+1;have e1:a6.heap.size=w8.heap.size+1+1:=by rw[P];simp[h1]
 have hb:Below w9.heap.size w9 a6:=by rw[P];exact(Below.refl _ w9).alloc nlr _
 have m:Si none a6 (.slice (some (Ad k0 0)) 2 2) 2 y12:=by rw[c7,<-h1,P];exact Cr (han w9 _) Dx (lt2 rfl rfl)
 replace i:=qh<|i.o.on hb;replace j:=qh<|j.o.on hb;replace k:=qh<|k.o.on hb;replace c:=qh<|c.o.trans (hb.mono c.o.size);clear hb;have Sx:=qh m;clear m;obtain⟨e9,Q⟩:=exq<|a6.alloc (.cells #[.int .i64 3] 3);obtain⟨k1,c8⟩:=exq<|w8.heap.size+1+1;have j0:e9.heap.size=w8.heap.size+1+1+1:=by rw[Q];simp[e1]
 have hb:Below a6.heap.size a6 e9:=by rw[Q];exact(Below.refl _ a6).alloc nlr _
 have m:Si none e9 (.slice (some (Ad k1 0)) 1 1) 1 c3:=by rw[c8,<-e1,Q];exact Cr (han a6 _) CM (lt1 rfl)
 replace i:=qh<|i.o.on hb;replace j:=qh<|j.o.on hb;replace k:=qh<|k.o.on hb;replace Sx:=qh<|Sx.o.kept (Ab hb none);replace c:=qh<|c.o.trans (hb.mono c.o.size);clear hb;have Sy:=qh m;clear m;have d:=qh (GU (kind:=1) (v:=⟨#[51]⟩) e9 Sx.o Sy.o (by decide) (by decide) (by unfold smS;decide) (B.o e9 c.o) ⟨by decide +kernel,by decide +kernel,by decide +kernel⟩);clear Sx Sy
 go_wp2_with fail
 rw[<-c8,<-c7,<-h0,<-b8,<-P,<-Q];rw[<-i5];clear b8 h1 h0;clear P e1 c7;clear Q j0 c8;clear i5;refine d.o.mono ?_;rintro r f4⟨hb,hr⟩;replace i:=qh<|i.o.on hb;replace j:=qh<|j.o.on hb;replace k:=qh<|k.o.on hb;replace c:=qh<|c.o.trans (hb.mono c.o.size);clear hb;clear d;obtain⟨K,R,rfl,g⟩:=hr;have g:OwM f4 _ K dD R:=g;obtain⟨n5,o5,A,_,_⟩:=AC g.top;subst A;obtain⟨f5,F⟩:=exq<|f4.alloc (.cells #[.int .i64 (1),.int .i64 (0),.string (⟨#[51]⟩),.slice n5 (dD).n o5] 24);obtain⟨b9,b3⟩:=exq<|f4.heap.size;have j1:f5.heap.size=f4.heap.size+1:=by rw[F];simp
 have hb:Below f4.heap.size f4 f5:=by rw[F];exact(Below.refl _ f4).alloc nlr _
 have m:Has f5 b9 (1) (0) (⟨#[51]⟩) n5 (dD).n o5 (dD):=by rw[b3,F];exact Has.new g ⟨by decide +kernel,by decide +kernel,by decide +kernel⟩
 clear g;have l4:bA≠b9:=by have:=lbk i.o.1;omega
 have l6:bB≠b9:=by have:=lbk j.o.1;omega
 have l8:bC≠b9:=by have:=lbk k.o.1;omega
 have LD:w.heap.size<=b9:=by have:=c.o.size;omega
 replace i:=qh<|i.o.on hb;replace j:=qh<|j.o.on hb;replace k:=qh<|k.o.on hb;replace c:=qh<|c.o.trans (hb.mono c.o.size);clear hb;have l:=qh m;clear m;obtain⟨bD,h2⟩:∃x,x=b9:=⟨_,rfl⟩;rw[<-h2]at l l4 l6 l8 LD;obtain⟨⟨m0,m1,m2,m3⟩,_⟩:=cells4 l.o.1;rw[F]at m0 m1 m2 m3;rw[h2,b3]at m0 m1 m2 m3;have d:=qh<|KM f5 l.o.ma MN (B.o f5 c.o)
 go_wp2_with fail
 clear m0 m1 m2 m3;rw[<-b3,<-F];rw[<-h2];clear F j1 b3;clear h2;refine d.o.mono ?_;rintro r g7⟨hb,hr⟩;replace i:=qh<|i.o.on hb;replace j:=qh<|j.o.on hb;replace k:=qh<|k.o.on hb;replace l:=qh<|l.o.on hb;replace c:=qh<|c.o.trans (hb.mono c.o.size);clear hb;clear d
 rcases hr with⟨_,_,K,R,rfl,g⟩|⟨_,u,_⟩|⟨u,_⟩
 rotate_left
 ·exact absurd Pk u
 ·exact absurd MO u
 obtain⟨h6,h8,A,_,_⟩:=AC g.top;subst A;obtain⟨⟨r0,r1,r2,r3⟩,rz⟩:=cells4 l.o.1;have f0:=rz 0;have f1:=rz 1;have f2:=rz 2;have f3:=rz 3;clear rz;obtain⟨L,z⟩:∃L,L=(((g7.setCell ⟨bD,0,none⟩ (.int .i64 (dD.kind))).setCell (Ad bD 1) (.int .i64 ((dD.n:Int)))).setCell (Ad bD 2) (.string (dD.lead))).setCell (Ad bD 3) (.slice h6 (revD dD).n h8):=⟨_,rfl⟩;have e2:L.heap.size=g7.heap.size:=by rw[z];simp[World.setCell]
 replace i:=qh (show Has L bA _ _ _ _ _ _ _ from by rw[z];exact i.o.set l.o.1 l4 _ _ _ _);replace j:=qh (show Has L bB _ _ _ _ _ _ _ from by rw[z];exact j.o.set l.o.1 l6 _ _ _ _);replace k:=qh (show Has L bC _ _ _ _ _ _ _ from by rw[z];exact k.o.set l.o.1 l8 _ _ _ _);replace c:=qh (show Below w.heap.size w L from by rw[z];exact AF c.o LD _ _ _ _);replace l:=qh (show Has L bD (dD.kind) ((dD.n:Int)) (dD.lead) h6 (revD dD).n h8 (revD dD) from by rw[z];exact Has.put g l.o.1 ⟨by decide +kernel,by decide +kernel,by decide +kernel⟩);clear g;obtain⟨a7,S⟩:=exq<|L.alloc (.cells #[.int .i64 1,.int .i64 2] 3);obtain⟨k2,c9⟩:=exq<|g7.heap.size;have e3:a7.heap.size=g7.heap.size+1:=by rw[S];simp[e2]
 have hb:Below L.heap.size L a7:=by rw[S];exact(Below.refl _ L).alloc nlr _
 have m:Si none a7 (.slice (some (Ad k2 0)) 2 2) 2 y12:=by rw[c9,<-e2,S];exact Cr (han L _) Dx (lt2 rfl rfl)
 replace i:=qh<|i.o.on hb;replace j:=qh<|j.o.on hb;replace k:=qh<|k.o.on hb;replace l:=qh<|l.o.on hb;replace c:=qh<|c.o.trans (hb.mono c.o.size);clear hb;have Sx:=qh m;clear m;obtain⟨f7,T⟩:=exq<|a7.alloc (.cells #[.int .i64 1,.int .i64 2] 3);obtain⟨k3,d0⟩:=exq<|g7.heap.size+1;have j2:f7.heap.size=g7.heap.size+1+1:=by rw[T];simp[e3]
 have hb:Below a7.heap.size a7 f7:=by rw[T];exact(Below.refl _ a7).alloc nlr _
 have m:Si none f7 (.slice (some (Ad k3 0)) 2 2) 2 y12:=by rw[d0,<-e3,T];exact Cr (han a7 _) Dx (lt2 rfl rfl)
 replace i:=qh<|i.o.on hb;replace j:=qh<|j.o.on hb;replace k:=qh<|k.o.on hb;replace l:=qh<|l.o.on hb;replace Sx:=qh<|Sx.o.kept (Ab hb none);replace c:=qh<|c.o.trans (hb.mono c.o.size);clear hb;have Sy:=qh m;clear m;have d:=qh (GU (kind:=1) (v:=⟨#[49]⟩) f7 Sx.o Sy.o (by decide) (by decide) (by unfold smS;decide) (B.o f7 c.o) ⟨by decide +kernel,by decide +kernel,by decide +kernel⟩);clear Sx Sy
 go_wp2_with fail
 rw[<-d0,<-c9,<-z,<-S,<-T];clear z e2;clear S e3 c9;clear T j2 d0;refine d.o.mono ?_;rintro r a3⟨hb,hr⟩;replace i:=qh<|i.o.on hb;replace j:=qh<|j.o.on hb;replace k:=qh<|k.o.on hb;replace l:=qh<|l.o.on hb;replace c:=qh<|c.o.trans (hb.mono c.o.size);clear hb;clear d;obtain⟨K,R,rfl,g⟩:=hr;have g:OwM a3 _ K abD R:=g;obtain⟨n7,o7,A,_,_⟩:=AC g.top;subst A;obtain⟨a8,U⟩:=exq<|a3.alloc (.cells #[.int .i64 (1),.int .i64 (0),.string (⟨#[49]⟩),.slice n7 (abD).n o7] 24);obtain⟨h4,d1⟩:=exq<|a3.heap.size;have e4:a8.heap.size=a3.heap.size+1:=by rw[U];simp
 have hb:Below a3.heap.size a3 a8:=by rw[U];exact(Below.refl _ a3).alloc nlr _
 have m:Has a8 h4 (1) (0) (⟨#[49]⟩) n7 (abD).n o7 (abD):=by rw[d1,U];exact Has.new g ⟨by decide +kernel,by decide +kernel,by decide +kernel⟩
 clear g;replace i:=qh<|i.o.on hb;replace j:=qh<|j.o.on hb;replace k:=qh<|k.o.on hb;replace l:=qh<|l.o.on hb;replace c:=qh<|c.o.trans (hb.mono c.o.size);clear hb;have o:=qh m;clear m;obtain⟨bG,i8⟩:∃x,x=h4:=⟨_,rfl⟩;rw[<-i8]at o;obtain⟨a9,X⟩:=exq<|a8.alloc (.cells #[.int .i64 3] 3);obtain⟨k4,d2⟩:=exq<|a3.heap.size+1;have e5:a9.heap.size=a3.heap.size+1+1:=by rw[X];simp[e4]
 have hb:Below a8.heap.size a8 a9:=by rw[X];exact(Below.refl _ a8).alloc nlr _
 have m:Si none a9 (.slice (some (Ad k4 0)) 1 1) 1 c3:=by rw[d2,<-e4,X];exact Cr (han a8 _) CM (lt1 rfl)
 replace i:=qh<|i.o.on hb;replace j:=qh<|j.o.on hb;replace k:=qh<|k.o.on hb;replace l:=qh<|l.o.on hb;replace o:=qh<|o.o.on hb;replace c:=qh<|c.o.trans (hb.mono c.o.size);clear hb;have Sx:=qh m;clear m;obtain⟨f8,Y⟩:=exq<|a9.alloc (.cells #[.int .i64 3] 3);obtain⟨k5,d3⟩:=exq<|a3.heap.size+1+1;have j3:f8.heap.size=a3.heap.size+1+1+1:=by rw[Y];simp[e5]
 have hb:Below a9.heap.size a9 f8:=by rw[Y];exact(Below.refl _ a9).alloc nlr _
 have m:Si none f8 (.slice (some (Ad k5 0)) 1 1) 1 c3:=by rw[d3,<-e5,Y];exact Cr (han a9 _) CM (lt1 rfl)
 replace i:=qh<|i.o.on hb;replace j:=qh<|j.o.on hb;replace k:=qh<|k.o.on hb;replace l:=qh<|l.o.on hb;replace o:=qh<|o.o.on hb;replace Sx:=qh<|Sx.o.kept (Ab hb none);replace c:=qh<|c.o.trans (hb.mono c.o.size);clear hb;have Sy:=qh m;clear m;have d:=qh (GU (kind:=1) (v:=⟨#[50]⟩) f8 Sx.o Sy.o (by decide) (by decide) (by unfold smS;decide) (B.o f8 c.o) ⟨by decide +kernel,by decide +kernel,by decide +kernel⟩);clear Sx Sy
 go_wp2_with fail
 rw[<-d3,<-d2,<-d1,<-U,<-X,<-Y];rw[<-i8];clear U e4 d1;clear X e5 d2;clear Y j3 d3;clear i8;refine d.o.mono ?_;rintro r f9⟨hb,hr⟩;replace i:=qh<|i.o.on hb;replace j:=qh<|j.o.on hb;replace k:=qh<|k.o.on hb;replace l:=qh<|l.o.on hb;replace o:=qh<|o.o.on hb;replace c:=qh<|c.o.trans (hb.mono c.o.size);clear hb;clear d;obtain⟨K,R,rfl,g⟩:=hr;have g:OwM f9 _ K kD R:=g;obtain⟨n9,o8,A,_,_⟩:=AC g.top;subst A;obtain⟨g0,C⟩:=exq<|f9.alloc (.cells #[.int .i64 (1),.int .i64 (0),.string (⟨#[50]⟩),.slice n9 (kD).n o8] 24);obtain⟨a5,b4⟩:=exq<|f9.heap.size;have j4:g0.heap.size=f9.heap.size+1:=by rw[C];simp
 have hb:Below f9.heap.size f9 g0:=by rw[C];exact(Below.refl _ f9).alloc nlr _
 have m:Has g0 a5 (1) (0) (⟨#[50]⟩) n9 (kD).n o8 (kD):=by rw[b4,C];exact Has.new g ⟨by decide +kernel,by decide +kernel,by decide +kernel⟩
 clear g;have l5:bA≠a5:=by have:=lbk i.o.1;omega
 have l7:bB≠a5:=by have:=lbk j.o.1;omega
 have l9:bC≠a5:=by have:=lbk k.o.1;omega
 have m4:bD≠a5:=by have:=lbk l.o.1;omega
 have m5:bG≠a5:=by have:=lbk o.o.1;omega
 have LK:w.heap.size<=a5:=by have:=c.o.size;omega
 replace i:=qh<|i.o.on hb;replace j:=qh<|j.o.on hb;replace k:=qh<|k.o.on hb;replace l:=qh<|l.o.on hb;replace o:=qh<|o.o.on hb;replace c:=qh<|c.o.trans (hb.mono c.o.size);clear hb;have p:=qh m;clear m;obtain⟨bK,h3⟩:∃x,x=a5:=⟨_,rfl⟩;rw[<-h3]at p l5 l7 l9 m4 m5 LK;obtain⟨⟨m0,m1,m2,m3⟩,_⟩:=cells4 o.o.1;rw[C]at m0 m1 m2 m3;obtain⟨⟨n0,n1,n2,n3⟩,_⟩:=cells4 p.o.1;rw[C]at n0 n1 n2 n3;rw[h3,b4]at n0 n1 n2 n3;have d:=qh<|Jp g0 o.o.ma p.o.ma LL NK (B.o g0 c.o) (by decide +kernel) (by decide +kernel)
 go_wp2_with fail
 clear m0 m1 m2 m3;clear n0 n1 n2 n3;rw[<-b4,<-C];rw[<-h3];clear C j4 b4;clear h3;refine d.o.mono ?_;rintro r l3⟨hb,hr⟩;replace i:=qh<|i.o.on hb;replace j:=qh<|j.o.on hb;replace k:=qh<|k.o.on hb;replace l:=qh<|l.o.on hb;replace o:=qh<|o.o.on hb;replace p:=qh<|p.o.on hb;replace c:=qh<|c.o.trans (hb.mono c.o.size);clear hb;clear d
 rcases hr with⟨_,_,_,⟨_,K,R,rfl,g⟩|⟨u,_⟩⟩|⟨_,_,u,_⟩|⟨u,_⟩
 rotate_left
 ·exact absurd TZ u
 ·exact absurd ⟨RR,RV,by decide +kernel⟩ u
 ·exact absurd ⟨LM,NL⟩ u
 have g:OwM l3 _ K cD R:=g;obtain⟨h7,h9,A,_,_⟩:=AC g.top;subst A;obtain⟨⟨r0,r1,r2,r3⟩,rz⟩:=cells4 p.o.1;have f0:=rz 0;have f1:=rz 1;have f2:=rz 2;have f3:=rz 3;clear rz;obtain⟨a4,s⟩:∃a4,a4=(((l3.setCell ⟨bK,0,none⟩ (.int .i64 (abD.kind))).setCell (Ad bK 1) (.int .i64 (((kD.n:Int)+abD.start)))).setCell (Ad bK 2) (.string ((Al abD.kind abD.lead kD.lead).1))).setCell (Ad bK 3) (.slice h7 (cD).n h9):=⟨_,rfl⟩;have j5:a4.heap.size=l3.heap.size:=by rw[s];simp[World.setCell]
 replace i:=qh (show Has a4 bA _ _ _ _ _ _ _ from by rw[s];exact i.o.set p.o.1 l5 _ _ _ _);replace j:=qh (show Has a4 bB _ _ _ _ _ _ _ from by rw[s];exact j.o.set p.o.1 l7 _ _ _ _);replace k:=qh (show Has a4 bC _ _ _ _ _ _ _ from by rw[s];exact k.o.set p.o.1 l9 _ _ _ _);replace l:=qh (show Has a4 bD _ _ _ _ _ _ _ from by rw[s];exact l.o.set p.o.1 m4 _ _ _ _);replace o:=qh (show Has a4 bG _ _ _ _ _ _ _ from by rw[s];exact o.o.set p.o.1 m5 _ _ _ _);replace c:=qh (show Below w.heap.size w a4 from by rw[s];exact AF c.o LK _ _ _ _);replace p:=qh (show Has a4 bK (abD.kind) (((kD.n:Int)+abD.start)) ((Al abD.kind abD.lead kD.lead).1) h7 (cD).n h9 (cD) from by rw[s];exact Has.put g p.o.1 ⟨by decide +kernel,by decide +kernel,by decide +kernel⟩);clear g
 go_wp2_with fail
 rw[<-s];clear s j5;clear r0 r1 r2 r3 f0 f1 f2 f3;refine(Dr a4).mono ?_;rintro r g1⟨hb,sv,rfl,hS⟩;replace i:=qh<|i.o.on hb;replace j:=qh<|j.o.on hb;replace k:=qh<|k.o.on hb;replace l:=qh<|l.o.on hb;replace o:=qh<|o.o.on hb;replace p:=qh<|p.o.on hb;replace c:=qh<|c.o.trans (hb.mono c.o.size);clear hb;obtain⟨b5,Z⟩:=exq<|g1.alloc (.cells #[.int .i64 2,.int .i64 3] 50);obtain⟨k6,d4⟩:=exq<|g1.heap.size;have j6:b5.heap.size=g1.heap.size+1:=by rw[Z];simp
 have hb:Below g1.heap.size g1 b5:=by rw[Z];exact(Below.refl _ g1).alloc nlr _
 have hP:PrS none b5 (.slice (some (Ad k6 0)) 1 1) 1 c2 c3:=by rw[d4,Z];exact If (han g1 _) CM (lt1 ⟨rfl,rfl⟩)
 have hS:StS none b5 sv mD:=hS.kept<|Ab hb none;replace i:=qh<|i.o.on hb;replace j:=qh<|j.o.on hb;replace k:=qh<|k.o.on hb;replace l:=qh<|l.o.on hb;replace o:=qh<|o.o.on hb;replace p:=qh<|p.o.on hb;replace c:=qh<|c.o.trans (hb.mono c.o.size);clear hb;have d:=qh<|Gu b5 (⟨_,rfl,hS⟩:Ma none b5 (.agg #[.int .i64 mD.kind,.int .i64 mD.start,.string mD.lead,sv]) mD) BO hP (by decide) (B.o b5 c.o);clear hS hP
 go_wp2_with fail
 rw[<-d4,<-Z];clear Z j6 d4;refine d.o.mono ?_;rintro r N⟨hb,hr⟩;replace i:=qh<|i.o.on hb;replace j:=qh<|j.o.on hb;replace k:=qh<|k.o.on hb;replace l:=qh<|l.o.on hb;replace o:=qh<|o.o.on hb;replace p:=qh<|p.o.on hb;replace c:=qh<|c.o.trans (hb.mono c.o.size);clear hb;clear d
 rcases hr with⟨_,K,R,rfl,g⟩|⟨u,_⟩
 rotate_left
 ·exact absurd ⟨Eg,lt1 ⟨by decide,by decide,by decide,by decide⟩⟩ u
 have g:OwM N _ K nD R:=g;obtain⟨n6,o6,A,_,_⟩:=AC g.top;subst A;obtain⟨b0,G⟩:=exq<|N.alloc (.cells #[.int .i64 ((mD.ren (mapF 1 c2 c3)).kind),.int .i64 ((mD.ren (mapF 1 c2 c3)).start),.string ((mD.ren (mapF 1 c2 c3)).lead),.slice n6 (nD).n o6] 24);obtain⟨h5,d5⟩:=exq<|N.heap.size;have e6:b0.heap.size=N.heap.size+1:=by rw[G];simp
 have hb:Below N.heap.size N b0:=by rw[G];exact(Below.refl _ N).alloc nlr _
 have m:Has b0 h5 ((mD.ren (mapF 1 c2 c3)).kind) ((mD.ren (mapF 1 c2 c3)).start) ((mD.ren (mapF 1 c2 c3)).lead) n6 (nD).n o6 (nD):=by rw[d5,G];exact Has.new g ⟨rfl,rfl,rfl⟩
 clear g;replace i:=qh<|i.o.on hb;replace j:=qh<|j.o.on hb;replace k:=qh<|k.o.on hb;replace l:=qh<|l.o.on hb;replace o:=qh<|o.o.on hb;replace p:=qh<|p.o.on hb;replace c:=qh<|c.o.trans (hb.mono c.o.size);clear hb;have D:=qh m;clear m;obtain⟨bE,i7⟩:∃x,x=h5:=⟨_,rfl⟩;rw[<-i7]at D;obtain⟨b1,H⟩:=exq<|b0.alloc (.cells #[.int .i64 1] 3);obtain⟨k7,d6⟩:=exq<|N.heap.size+1;have e7:b1.heap.size=N.heap.size+1+1:=by rw[H];simp[e6]
 have hb:Below b0.heap.size b0 b1:=by rw[H];exact(Below.refl _ b0).alloc nlr _
 have m:Si none b1 (.slice (some (Ad k7 0)) 1 1) 1 c1:=by rw[d6,<-e6,H];exact Cr (han b0 _) CM (lt1 rfl)
 replace i:=qh<|i.o.on hb;replace j:=qh<|j.o.on hb;replace k:=qh<|k.o.on hb;replace l:=qh<|l.o.on hb;replace o:=qh<|o.o.on hb;replace p:=qh<|p.o.on hb;replace D:=qh<|D.o.on hb;replace c:=qh<|c.o.trans (hb.mono c.o.size);clear hb;have E:=qh m;clear m;obtain⟨b2,I⟩:=exq<|b1.alloc (.cells #[.int .i64 2] 3);obtain⟨k9,d7⟩:=exq<|N.heap.size+1+1;have e8:b2.heap.size=N.heap.size+1+1+1:=by rw[I];simp[e7]
 have hb:Below b1.heap.size b1 b2:=by rw[I];exact(Below.refl _ b1).alloc nlr _
 have m:Si none b2 (.slice (some (Ad k9 0)) 1 1) 1 c2:=by rw[d7,<-e7,I];exact Cr (han b1 _) CM (lt1 rfl)
 replace i:=qh<|i.o.on hb;replace j:=qh<|j.o.on hb;replace k:=qh<|k.o.on hb;replace l:=qh<|l.o.on hb;replace o:=qh<|o.o.on hb;replace p:=qh<|p.o.on hb;replace D:=qh<|D.o.on hb;replace E:=qh<|E.o.kept (Ab hb none);replace c:=qh<|c.o.trans (hb.mono c.o.size);clear hb;have S2:=qh m;clear m;obtain⟨g2,J⟩:=exq<|b2.alloc (.cells #[.int .i64 3] 3);obtain⟨l0,d8⟩:=exq<|N.heap.size+1+1+1;have j7:g2.heap.size=N.heap.size+1+1+1+1:=by rw[J];simp[e8]
 have hb:Below b2.heap.size b2 g2:=by rw[J];exact(Below.refl _ b2).alloc nlr _
 have m:Si none g2 (.slice (some (Ad l0 0)) 1 1) 1 c3:=by rw[d8,<-e8,J];exact Cr (han b2 _) CM (lt1 rfl)
 replace i:=qh<|i.o.on hb;replace j:=qh<|j.o.on hb;replace k:=qh<|k.o.on hb;replace l:=qh<|l.o.on hb;replace o:=qh<|o.o.on hb;replace p:=qh<|p.o.on hb;replace D:=qh<|D.o.on hb;replace E:=qh<|E.o.kept (Ab hb none);replace S2:=qh<|S2.o.kept (Ab hb none);replace c:=qh<|c.o.trans (hb.mono c.o.size);clear hb;have O:=qh m;clear m;obtain⟨⟨m0,m1,m2,m3⟩,_⟩:=cells4 i.o.1;rw[J,I,H,G]at m0 m1 m2 m3;have d:=qh<|CS g2 i.o.ma { BO with } (B.o g2 c.o) S2.o E.o (by decide) (by decide) UU
 go_wp2_with fail
 clear m0 m1 m2 m3;rw[<-d8,<-d7,<-d6,<-d5,<-G,<-H,<-I,<-J];rw[<-i7];clear G e6 d5;clear H e7 d6;clear I e8 d7;clear J j7 d8;clear i7;refine d.o.mono ?_;rintro r p6⟨rfl,hb⟩;replace i:=qh<|i.o.on hb;replace j:=qh<|j.o.on hb;replace k:=qh<|k.o.on hb;replace l:=qh<|l.o.on hb;replace o:=qh<|o.o.on hb;replace p:=qh<|p.o.on hb;replace D:=qh<|D.o.on hb;replace E:=qh<|E.o.kept (Ab hb none);replace S2:=qh<|S2.o.kept (Ab hb none);replace O:=qh<|O.o.kept (Ab hb none);replace c:=qh<|c.o.trans (hb.mono c.o.size);clear hb;clear d;obtain⟨⟨m0,m1,m2,m3⟩,_⟩:=cells4 i.o.1;have d:=qh<|CS p6 i.o.ma { BO with } (B.o p6 c.o) E.o S2.o (by decide) (by decide) UV
 go_wp2_with fail
 clear m0 m1 m2 m3;refine d.o.mono ?_;rintro r p7⟨rfl,hb⟩;replace i:=qh<|i.o.on hb;replace j:=qh<|j.o.on hb;replace k:=qh<|k.o.on hb;replace l:=qh<|l.o.on hb;replace o:=qh<|o.o.on hb;replace p:=qh<|p.o.on hb;replace D:=qh<|D.o.on hb;replace E:=qh<|E.o.kept (Ab hb none);replace S2:=qh<|S2.o.kept (Ab hb none);replace O:=qh<|O.o.kept (Ab hb none);replace c:=qh<|c.o.trans (hb.mono c.o.size);clear hb;clear d;obtain⟨⟨m0,m1,m2,m3⟩,_⟩:=cells4 j.o.1;have d:=qh<|CS p7 j.o.ma { BO with } (B.o p7 c.o) E.o E.o (by decide) (by decide) ex_b
 go_wp2_with fail
 clear m0 m1 m2 m3;refine d.o.mono ?_;rintro r p8⟨rfl,hb⟩;replace i:=qh<|i.o.on hb;replace j:=qh<|j.o.on hb;replace k:=qh<|k.o.on hb;replace l:=qh<|l.o.on hb;replace o:=qh<|o.o.on hb;replace p:=qh<|p.o.on hb;replace D:=qh<|D.o.on hb;replace E:=qh<|E.o.kept (Ab hb none);replace S2:=qh<|S2.o.kept (Ab hb none);replace O:=qh<|O.o.kept (Ab hb none);replace c:=qh<|c.o.trans (hb.mono c.o.size);clear hb;clear d;obtain⟨⟨m0,m1,m2,m3⟩,_⟩:=cells4 k.o.1;have d:=qh<|CS p8 k.o.ma { BO with } (B.o p8 c.o) O.o O.o (by decide) (by decide) ex_c
 go_wp2_with fail
 clear m0 m1 m2 m3;refine d.o.mono ?_;rintro r g3⟨rfl,hb⟩;replace i:=qh<|i.o.on hb;replace j:=qh<|j.o.on hb;replace k:=qh<|k.o.on hb;replace l:=qh<|l.o.on hb;replace o:=qh<|o.o.on hb;replace p:=qh<|p.o.on hb;replace D:=qh<|D.o.on hb;replace E:=qh<|E.o.kept (Ab hb none);replace S2:=qh<|S2.o.kept (Ab hb none);replace O:=qh<|O.o.kept (Ab hb none);replace c:=qh<|c.o.trans (hb.mono c.o.size);clear hb;clear d;obtain⟨⟨m0,m1,m2,m3⟩,_⟩:=cells4 l.o.1;obtain⟨g4,a1⟩:=exq<|g3.alloc (.cells #[.int .i64 2,.int .i64 1] 3);obtain⟨l1,d9⟩:=exq<|g3.heap.size;have j8:g4.heap.size=g3.heap.size+1:=by rw[a1];simp
 have hb:Below g3.heap.size g3 g4:=by rw[a1];exact(Below.refl _ g3).alloc nlr _
 have m:Si none g4 (.slice (some (Ad l1 0)) 2 2) 2 y21:=by rw[d9,a1];exact Cr (han g3 _) Dx (lt2 rfl rfl)
 replace i:=qh<|i.o.on hb;replace j:=qh<|j.o.on hb;replace k:=qh<|k.o.on hb;replace l:=qh<|l.o.on hb;replace o:=qh<|o.o.on hb;replace p:=qh<|p.o.on hb;replace D:=qh<|D.o.on hb;replace E:=qh<|E.o.kept (Ab hb none);replace S2:=qh<|S2.o.kept (Ab hb none);replace O:=qh<|O.o.kept (Ab hb none);replace c:=qh<|c.o.trans (hb.mono c.o.size);clear hb;have Sz:=qh m;clear m;have d:=qh<|CS g4 l.o.ma XF (B.o g4 c.o) Sz.o O.o (by decide) (by decide) ex_d
 go_wp2_with fail
 clear m0 m1 m2 m3;rw[<-d9,<-a1];clear a1 j8 d9;refine d.o.mono ?_;rintro r g5⟨rfl,hb⟩;replace i:=qh<|i.o.on hb;replace j:=qh<|j.o.on hb;replace k:=qh<|k.o.on hb;replace l:=qh<|l.o.on hb;replace o:=qh<|o.o.on hb;replace p:=qh<|p.o.on hb;replace D:=qh<|D.o.on hb;replace E:=qh<|E.o.kept (Ab hb none);replace S2:=qh<|S2.o.kept (Ab hb none);replace O:=qh<|O.o.kept (Ab hb none);replace Sz:=qh<|Sz.o.kept (Ab hb none);replace c:=qh<|c.o.trans (hb.mono c.o.size);clear hb;clear d Sz;obtain⟨⟨m0,m1,m2,m3⟩,_⟩:=cells4 p.o.1;obtain⟨g6,a2⟩:=exq<|g5.alloc (.cells #[.int .i64 1,.int .i64 2] 3);obtain⟨l2,e0⟩:=exq<|g5.heap.size;have j9:g6.heap.size=g5.heap.size+1:=by rw[a2];simp
 have hb:Below g5.heap.size g5 g6:=by rw[a2];exact(Below.refl _ g5).alloc nlr _
 have m:Si none g6 (.slice (some (Ad l2 0)) 2 2) 2 y12:=by rw[e0,a2];exact Cr (han g5 _) Dx (lt2 rfl rfl)
 replace i:=qh<|i.o.on hb;replace j:=qh<|j.o.on hb;replace k:=qh<|k.o.on hb;replace l:=qh<|l.o.on hb;replace o:=qh<|o.o.on hb;replace p:=qh<|p.o.on hb;replace D:=qh<|D.o.on hb;replace E:=qh<|E.o.kept (Ab hb none);replace S2:=qh<|S2.o.kept (Ab hb none);replace O:=qh<|O.o.kept (Ab hb none);replace c:=qh<|c.o.trans (hb.mono c.o.size);clear hb;have Sz:=qh m;clear m;have d:=qh<|CS g6 p.o.ma Td (B.o g6 c.o) Sz.o O.o (by decide) (by decide) ex_k
 go_wp2_with fail
 clear m0 m1 m2 m3;rw[<-e0,<-a2];clear a2 j9 e0;refine d.o.mono ?_;rintro r p9⟨rfl,hb⟩;replace i:=qh<|i.o.on hb;replace j:=qh<|j.o.on hb;replace k:=qh<|k.o.on hb;replace l:=qh<|l.o.on hb;replace o:=qh<|o.o.on hb;replace p:=qh<|p.o.on hb;replace D:=qh<|D.o.on hb;replace E:=qh<|E.o.kept (Ab hb none);replace S2:=qh<|S2.o.kept (Ab hb none);replace O:=qh<|O.o.kept (Ab hb none);replace Sz:=qh<|Sz.o.kept (Ab hb none);replace c:=qh<|c.o.trans (hb.mono c.o.size);clear hb;clear d Sz;obtain⟨⟨m0,m1,m2,m3⟩,_⟩:=cells4 D.o.1;have d:=qh<|CS p9 D.o.ma { BO with } (B.o p9 c.o) E.o O.o (by decide) (by decide) ex_n
 go_wp2_with fail
 clear m0 m1 m2 m3;refine d.o.mono ?_;rintro r q7⟨rfl,hb⟩;replace i:=qh<|i.o.on hb;replace j:=qh<|j.o.on hb;replace k:=qh<|k.o.on hb;replace l:=qh<|l.o.on hb;replace o:=qh<|o.o.on hb;replace p:=qh<|p.o.on hb;replace D:=qh<|D.o.on hb;replace E:=qh<|E.o.kept (Ab hb none);replace S2:=qh<|S2.o.kept (Ab hb none);replace O:=qh<|O.o.kept (Ab hb none);replace c:=qh<|c.o.trans (hb.mono c.o.size);clear hb;clear d;go_wp2;go_ret;exact⟨rfl,c.o⟩
end
section
open Go.RowKit Go.Deep
variable{b na nb:Nat}{x y:Nat->Int}{D:MD}{mv:Value}
def TestP(p:Prop)(w:World)(r:Ending)(w':World):Prop:=∃b:Bool,r=.returned (.bool b)/\(b=true↔p)/\Below w.heap.size w w'
def YC(w:World):Calls prog 51 #[AE,AE] w (TrueB w):=by
 unfold AE;obtain⟨j,c⟩:=exq<|w.alloc (.cells #[.int .i64 0,.int .i64 0,.string ⟨#[]⟩,.slice none 0 0] 24);obtain⟨k,d⟩:=exq<|j.alloc (.cells #[.int .i64 0,.int .i64 0,.string ⟨#[]⟩,.slice none 0 0] 24);obtain⟨l,g⟩:=exq<|w.heap.size;obtain⟨s,h⟩:=exq<|w.heap.size+1;have i:j.heap.size=w.heap.size+1:=by rw[c];simp
 have m:k.heap[l]?=some (.cells #[.int .i64 0,.int .i64 0,.string ⟨#[]⟩,.slice none 0 0] 24 (0,0)):=by
  have H:j.heap[l]?=some (.cells #[.int .i64 0,.int .i64 0,.string ⟨#[]⟩,.slice none 0 0] 24 (0,0)):=by rw[c,g];exact han w _
  rw[d];exact((Fr.alloc (C:=λ_=>False) j _).block l (lbk H) (λe=>e)).trans H
 have o:k.heap[s]?=some (.cells #[.int .i64 0,.int .i64 0,.string ⟨#[]⟩,.slice none 0 0] 24 (0,0)):=by
  have:=han j (.cells #[.int .i64 0,.int .i64 0,.string ⟨#[]⟩,.slice none 0 0] 24);rw[d,h,<-i];exact this
 have p:=qh (show Below w.heap.size w k by
  rw[d];refine Below.alloc ?_ (by rw[i];omega) _;rw[c];exact blr.alloc nlr _)
 have J:=cellOf m 0 rfl;have K:=cellOf m 1 rfl;have L:=cellOf m 2 rfl;have N:=cellOf m 3 rfl;have O:=cellOf o 0 rfl;have P:=cellOf o 1 rfl;have Q:=cellOf o 2 rfl;have R:=cellOf o 3 rfl;have u:=J;have z:=K;have A:=L;have B:=N;have D:=O;have E:=P;have F:=Q;have G:=R;rw[d,c,g]at u z A B;rw[d,c,h]at D E F G;clear i m o
 go_enter func51,ntmps51
 go_wp2_with fail
 rw[<-c,<-d,<-h,<-g];clear u z A B D E F G c d g h
 go_loopw [5] (λI wr=>I=.int .i64 0/\wr=k) (λ_ _=>0)
 case atStart=>exact⟨rfl,rfl⟩
 obtain⟨rfl,rfl⟩:=hrel;go_wp2;go_ret;exact⟨rfl,p.o⟩
def Hq(w:World)(K:Ma none w mv D)(A:MSz D):Calls prog 13 #[mv] w (TestP (8<D.n\/30<Ac D D.n) w):=by
 obtain⟨sv,rfl,u⟩:=K;obtain⟨a,g,_,_,_,_,_,_,B,_,_,z,_⟩:=u.open;subst B;unfold maxLen at z;obtain⟨i,d⟩:=exq<|w.alloc (.cells #[.int .i64 D.kind,.int .i64 D.start,.string D.lead,.slice a D.n g] 24);have m:Fr (λ_=>False) w i:=by rw[d];exact Fr.alloc _ _
 have c:Below w.heap.size w i:=m.below nlr (λ_ e=>e.elim);have o:i.heap[w.heap.size]?=some (.cells #[.int .i64 D.kind,.int .i64 D.start,.string D.lead,.slice a D.n g] 24 (0,0)):=by rw[d];exact han w _
 obtain⟨⟨m0,m1,C,E⟩,_⟩:=cells4 o;have p:=qh (⟨_,rfl,u.kept (Ab c none)⟩:Ma none i (.agg #[.int .i64 D.kind,.int .i64 D.start,.string D.lead,.slice a D.n g]) D);replace A:=qh A;replace c:=qh c;clear m o u;have N:(0:Int)<=(D.n:Int):=by omega
 obtain⟨n,L⟩:=exq<|D.n;rw[d]at m0 m1 C E;by_cases I:(8:Int)<(D.n:Int)
 ·have k:=qh<|show 8<D.n\/30<Ac D D.n from .inl (by omega)
  go_enter func13,ntmps13
  go_wp2;go_ret;exact⟨true,rfl,⟨λ_=>k.o,λ_=>rfl⟩,by rw[<-d];exact c.o⟩
 have J:decide ((8:Int)<(D.n:Int))=false:=by simp;omega
 have F:=qh<|Su i p.o A.o (by omega);have s:=qh (show ¬8<D.n by omega);clear I L
 go_enter func13,ntmps13
 go_wp2_with fail
 rw[<-d];clear d m0 m1 C E;refine F.o.mono ?_;rintro r O⟨rfl,l⟩;have j:=qh<|c.o.trans (l.mono c.o.size);clear l;by_cases G:(30:Int)<((Ac D D.n:Nat):Int)
 ·have k:=qh<|show 8<D.n\/30<Ac D D.n from .inr (by omega);go_wp2;go_ret;exact⟨true,rfl,⟨λ_=>k.o,λ_=>rfl⟩,j.o⟩
 have H:decide ((30:Int)<((Ac D D.n:Nat):Int))=false:=by simp;omega
 have k:=qh (show ¬(8<D.n\/30<Ac D D.n) from λh=>by rcases h with h|h;exact s.o h;omega)
 clear G;go_wp2;go_ret;exact⟨false,rfl,⟨(λh=>by cases h),λh=>absurd h k.o⟩,j.o⟩
def Nq{n:Nat}{V:Nat->Value}{L:Nat->Nat}{X:Nat->Nat->Int}(w:World)(hn:n<=10)(C:∀i,i<n->w.cell? (Ad b i)=some (V i)/\Si none w (V i) (L i) (X i))(B:∀i,i<n->(L i:Int)<=9223372036854775807):
  Calls prog 14 #[.slice (some (Ad b 0)) n n] w (TestP (∃i,i<n/\(6<L i\/isWord (L i) (X i)=false)) w):=by
 replace C:=qh C;replace B:=qh B
 go_enter func14,ntmps14
 go_wp2_with fail
 go_loopw [3] (λi wr=>∃q:Nat,q<=n/\i=.int .i64 (q:Int)/\(∀j,j<q->L j<=6/\isWord (L j) (X j)=true)/\wr=w) (λi _=>n-(intOf i).toNat)
 case atStart=>exact⟨0,Nat.zero_le _,rfl,λj J=>by omega,rfl⟩
 obtain⟨q,P,rfl,k,rfl⟩:=hrel;replace k:=qh k;by_cases g:q<n
 ·have K:(q:Int)<(n:Int):=by omega
  have D:(0:Int)<=(q:Int):=by omega
  obtain⟨c0,s⟩:=C.o q g;have d:=s;obtain⟨a,E,s⟩:=s.shape;rw[s]at c0 d;have p:=B.o q g;obtain⟨o,c⟩:=exq<|L q;rw[<-c]at c0 p d;replace c:=qh c;clear s;by_cases G:(6:Int)<(o:Int)
  ·have A:=qh (show ∃i,i<n/\(6<L i\/isWord (L i) (X i)=false) from ⟨q,g,.inl (by rw[<-c.o];omega)⟩);clear d;go_wp2;go_ret;exact⟨true,rfl,⟨λ_=>A.o,λ_=>rfl⟩,blr⟩
  have H:decide ((6:Int)<(o:Int))=false:=by simp;omega
  have u:=qh<|It wr d p;have z:=qh (show ¬6<o by omega);clear G d;cases m:isWord o (X q)
  ·have A:=qh (show ∃i,i<n/\(6<L i\/isWord (L i) (X i)=false) from ⟨q,g,.inr (by rw[<-c.o];exact m)⟩);rw[m]at u;clear m
   go_wp2_with fail
   refine u.o.mono ?_;rintro r N⟨rfl,rfl⟩;go_wp2;go_ret;exact⟨true,rfl,⟨λ_=>A.o,λ_=>rfl⟩,blr⟩
  rw[m]at u;replace m:=qh m
  go_wp2_with fail
  refine u.o.mono ?_;rintro r N⟨rfl,rfl⟩;go_wp2;go_roundw
  case rel =>
   refine⟨q+1,by omega,by go_num,λj J=>?_,by first|rfl|trivial⟩
   by_cases e:j=q
   ·rw[e,<-c.o];exact⟨Nat.le_of_not_lt z.o,m.o⟩
   exact k.o j (by omega)
  simp[intOf];omega
 have l:q=n:=by omega
 have I:¬((q:Int)<(n:Int)):=by omega
 replace l:=qh l;go_wp2;go_ret;exact⟨false,rfl,⟨(λh=>by cases h),λ⟨i,hi,h⟩=>by
  obtain⟨O,F⟩:=k.o i (by rw[l.o];exact hi)
  rcases h with h|h
  ·omega
  rw[F]at h;cases h⟩,blr⟩
def pk{α:Type}(a b:α)(i:Nat):α:=if i=0 then a else b
def JE(h:¬∃i,i<2/\(6<pk na nb i\/isWord (pk na nb i) (pk x y i)=false)):(na<=6/\isWord na x=true)/\(nb<=6/\isWord nb y=true):=by
 refine⟨⟨?_,?_⟩,?_,?_⟩
 ·exact Nat.le_of_not_lt λc=>h ⟨0,by omega,.inl c⟩
 ·cases e:isWord na x
  ·exact absurd ⟨0,by omega,.inr e⟩ h
  rfl
 ·exact Nat.le_of_not_lt λc=>h ⟨1,by omega,.inl c⟩
 cases e:isWord nb y
 ·exact absurd ⟨1,by omega,.inr e⟩ h
 rfl
def Va(h:¬∃i,i<1/\(6<pk na na i\/isWord (pk na na i) (pk x x i)=false)):na<=6/\isWord na x=true:=by
 refine⟨?_,?_⟩
 ·exact Nat.le_of_not_lt λc=>h ⟨0,by omega,.inl c⟩
 cases e:isWord na x
 ·exact absurd ⟨0,by omega,.inr e⟩ h
 rfl
def JD{g h:Value}(w:World)(c0:w.cell? (Ad b 0)=some g)(c1:w.cell? (Ad b 1)=some h)(j:Si none w g na x)(k:Si none w h nb y)(c:(na:Int)<=9223372036854775807)(d:(nb:Int)<=9223372036854775807):
  Calls prog 14 #[.slice (some (Ad b 0)) 2 2] w (TestP (∃i,i<2/\(6<pk na nb i\/isWord (pk na nb i) (pk x y i)=false)) w) :=
 Nq (V:=pk g h) w (by omega) (lt2 ⟨c0,j⟩ ⟨c1,k⟩) (lt2 c d)
def UZ{c:Value}(w:World)(c0:w.cell? (Ad b 0)=some c)(g:Si none w c na x)(d:(na:Int)<=9223372036854775807):
  Calls prog 14 #[.slice (some (Ad b 0)) 1 1] w (TestP (∃i,i<1/\(6<pk na na i\/isWord (pk na na i) (pk x x i)=false)) w) :=
 Nq (V:=pk c c) w (by omega) (lt1 ⟨c0,g⟩) (lt1 d)
def Gt(w:World)(e:Int)(p:Tab w):Calls prog 18 #[AE,.int .i64 e,.int .i64 e] w (TrueB w):=by
 obtain⟨k,g⟩:=exq<|w.alloc (.cells #[.int .i64 0,.int .i64 0,.string ⟨#[]⟩,.slice none 0 0] 24);have c:Below w.heap.size w k:=by rw[g];exact(Below.refl _ w).alloc nlr _
 have o:=qh<|YC k;have m:=qh<|show ∀W,Below w.heap.size w W->Tab W from λW h=>p.below h nlr;clear p;replace c:=qh c;unfold AE;unfold AE at o
 go_enter func18,ntmps18
 go_wp2_with fail
 rw[<-g];clear g;refine o.o.mono ?_;rintro r s⟨rfl,i⟩;have d:=qh<|c.o.trans (i.mono c.o.size);clear i
 go_wp2_with fail
 refine(CH s (m.o s d.o)).mono ?_;rintro r u⟨rfl,j⟩;have l:=qh<|d.o.trans (j.mono d.o.size);clear j;go_wp2;go_ret;exact⟨rfl,l.o⟩
def FI{xv yv:Value}{f:Nat}{k:ByteArray}(w:World)(hM:Ma none w mv D)(R:MSz D)(ht:Tab w)(Z:Si none w xv na x)(hy:Si none w yv nb y)(hV:VM D)(L:isWord na x=true)(N:isWord nb y=true)
  (B:∀z:ByteArray × Nat,Wv D na x nb y z->z.2=0->f=0->z.1=k):Calls prog 20 #[mv,xv,yv,.string k,.int .i64 (f:Int)] w (TrueB w):=by
 obtain⟨sv,rfl,X⟩:=hM;obtain⟨a,p,_,_,_,_,_,_,Y,_⟩:=X.open;obtain⟨ax,cx,rfl⟩:=Z.shape;obtain⟨ay,cy,rfl⟩:=hy.shape;subst Y;obtain⟨C,j⟩:=exq<|w.alloc (.cells #[.int .i64 D.kind,.int .i64 D.start,.string D.lead,.slice a D.n p] 24);obtain⟨a1,l⟩:∃b,b=w.heap.size:=⟨_,rfl⟩;have g:Below w.heap.size w C:=by rw[j];exact(Below.refl _ w).alloc nlr _
 have u:C.heap[a1]?=some (.cells #[.int .i64 D.kind,.int .i64 D.start,.string D.lead,.slice a D.n p] 24 (0,0)):=by rw[j,l];exact han w _
 have G:=qh<|show ∀W,Below w.heap.size w W->Ma none W (.agg #[.int .i64 D.kind,.int .i64 D.start,.string D.lead,.slice a D.n p]) D from λW h=>⟨_,rfl,X.kept (Ab h none)⟩;have H:=qh<|show ∀W,Below w.heap.size w W->Si none W (.slice ax na cx) na x/\Si none W (.slice ay nb cy) nb y from λW h=>⟨Z.kept (Ab h none),hy.kept (Ab h none)⟩;have T:=qh<|show ∀W,Below w.heap.size w W->Tab W from λW h=>ht.below h nlr;clear ht;replace R:=qh R;replace B:=qh B;have HV:=qh<|show VM D/\isWord na x=true/\isWord nb y=true from ⟨hV,L,N⟩;clear hV L N;obtain⟨⟨m0,m1,O,P⟩,_⟩:=cells4 u;have o:=qh u;clear u;replace g:=qh g;clear X Z hy;have E:=qh<|CR C (G.o C g.o) R.o;rw[j]at m0 m1 O P;rw[l]at m0 m1 O P
 go_enter func20,ntmps20
 go_wp2_with fail
 rw[<-l,<-j];clear j l m0 m1 O P;refine E.o.mono ?_;rintro r S⟨s,hr⟩;have J:=(s.block _ (lbk o.o)).trans o.o;obtain⟨⟨m0,m1,O,P⟩,_⟩:=cells4 J;have c:=qh<|g.o.trans (s.mono g.o.size);clear s E o J
 rcases hr with⟨_,rfl⟩|⟨A,rfl⟩
 rotate_left
 ·exact absurd HV.o.1 A
 have E:=qh<|IQ S (G.o S c.o) R.o (H.o S c.o).1 (H.o S c.o).2
 go_wp2_with fail
 clear m0 m1 O P;refine E.o.mono ?_;rintro r w3⟨I,z,rfl,hz⟩;have d:=qh<|c.o.trans (I.mono c.o.size);clear I E
 rcases hz with⟨_,_,_,K⟩|⟨A,_⟩
 rotate_left
 ·exact absurd HV.o A
 have Q:=qh<|B.o z K;clear K;obtain⟨zt,ze⟩:=z;have F:=qh<|CH w3 (T.o w3 d.o);by_cases U:ze=0;by_cases h2:f=0
 ·subst U h2;have h3:zt=k:=Q.o rfl rfl;subst h3;clear Q
  go_wp2_with fail
  refine F.o.mono ?_;rintro r w4⟨rfl,i⟩;have m:=qh<|d.o.trans (i.mono d.o.size);clear i;go_wp2;go_ret;exact⟨rfl,m.o⟩
 subst U;have a3:¬((f:Int)=0):=by omega
 clear Q h2
 rotate_left
 have a2:¬((ze:Int)=0):=by omega
 clear Q U
 all_goals
  go_wp2_with fail
  refine F.o.mono ?_;rintro r w4⟨rfl,i⟩;have m:=qh<|d.o.trans (i.mono d.o.size);clear i;go_wp2;go_ret;exact⟨rfl,m.o⟩
end
section
open Go.RowKit Go.Deep Go.ChangeShapes Go.WideShapes
variable{W:World}{k:Bool}{v:Value}
def SC{H:Type}{enc:TypeId × Value->H}{i:Nat}{x:DataW H × List MemPlace}(h:DataW.trod enc prog W 0 (λ_=>true) k i 79 [v]=some x):
  ∃n X,Ss none W v n X/\∀j,(X j).size<=maxLen:=by
 rcases open_strings underlying79 underlying9 (by kernel_rfl) h with⟨d,_⟩|⟨a,len,g,ss,d,_,B,s,l,_,c,o⟩
 ·simp only[List.cons.injEq,and_true]at d;exact⟨0,λ_=>⟨#[]⟩,.inl ⟨rfl,none,0,d,Nat.zero_le _⟩,λ_=>Nat.zero_le _⟩
 simp only[List.cons.injEq,and_true]at d;simp only[if_true]at l;have A:∀j,(ss.getD j ByteArray.empty).size<=maxLen:=λj=>by
  by_cases m:j<ss.length
  ·rw[List.getD,List.getElem?_eq_getElem m];exact o _ (List.getElem_mem m)
  rw[List.getD,List.getElem?_eq_none (by omega)];exact Nat.zero_le _
 refine⟨len,λj=>ss.getD j ByteArray.empty,?_,A⟩;by_cases z:len=0
 ·subst z;exact .inl ⟨rfl,some a,g,d,s⟩
 have c0:=c 0 (by omega);have u:a.spot=none:=by simpa [Addr.add] using World.cell?_spot c0
 obtain⟨b,p,C⟩:=a;simp only at u;subst u;refine .inr ⟨b,p,g,d,⟨?_,by simp⟩,B,s,λj m=>?_⟩
 ·have:=World.block_lt_of_cell? _ _ c0;rw[Addr.add_lit]at this;exact this
 have:=c j (by omega);rw[Addr.add_lit]at this;exact this
def z1x{H:Type}{enc:TypeId × Value->H}{g:Nat}{x:DataW H × List MemPlace}(h:DataW.trod enc prog W 0 (λ_=>true) k g 75 [v]=some x):
  ∃n L X,Mt none W v n L X/\∀i j,(X i j).size<=maxLen:=by
 rcases open_slice1 underlying75 (by kernel_rfl) h with⟨d,_⟩|⟨a,len,z,m,G,V,D,Pl,d,_,E,s,l,_,o⟩
 ·simp only[List.cons.injEq,and_true]at d;exact⟨0,λ_=>0,λ_ _=>⟨#[]⟩,⟨λ_=>.nilIface,.inl ⟨rfl,none,0,d,Nat.zero_le _⟩,λi hi=>absurd hi (Nat.not_lt_zero _)⟩,λ_ _=>Nat.zero_le _⟩
 simp only[List.cons.injEq,and_true]at d;simp only[if_true]at l;subst l
 classical
 have c:∀i,∃t:Nat × (Nat->ByteArray),(i<m->Ss none W (V i) t.1 t.2)/\∀j,(t.2 j).size<=maxLen:=λi=>by
  by_cases hi:i<m
  ·obtain⟨n,X,B,C⟩:=SC (o i hi).2;exact⟨(n,X),λ_=>B,C⟩
  exact⟨(0,λ_=>⟨#[]⟩),λh=>absurd h hi,λ_=>Nat.zero_le _⟩
 refine⟨len,λi=>(Classical.choose (c i)).1,λi=>(Classical.choose (c i)).2,⟨V,?_,λi hi=>(Classical.choose_spec (c i)).1 (by omega)⟩,λi j=>(Classical.choose_spec (c i)).2 j⟩;by_cases A:len=0
 ·subst A;exact .inl ⟨rfl,some a,m,d,s⟩
 have c0:=(o 0 (by omega)).1;have u:a.spot=none:=by simpa [Addr.add] using World.cell?_spot c0
 obtain⟨b,p,I⟩:=a;simp only at u;subst u;refine .inr ⟨b,p,m,d,⟨?_,by simp⟩,E,s,λj F=>?_⟩
 ·have:=World.block_lt_of_cell? _ _ c0;rw[Addr.add_lit]at this;exact this
 have:=(o j (by omega)).1;rw[Addr.add_lit]at this;exact this
end
section
open Go.RowKit Go.Deep Go.ChangeShapes Go.WideShapes Go.Joins
variable{e t:TypeId}{W:World}{v:Value}
theorem Rv{H:Type}{P:Program}{e:TypeId}{d:DataW H}{n:Nat}:∀{ds:List (DataW H)},d ∈ ds->n ∈ d.weights P e->n ∈ DataW.weightsAll P e ds
 |d0::r,h,hn=>by
  simp only[DataW.weightsAll,List.mem_append]
  rcases List.mem_cons.1 h with rfl|h
  ·exact .inl hn
  exact .inr<|Rv h hn
def Qk{H:Type}{c d:List (DataW H)}(i:prog.underlying t=some (.slice e))(g:1<=prog.bytesOf e){b:Nat}(hb:∀m ∈ (DataW.slice c d).weights prog t,m<=b):c.length<=b:=by
 have h:=hb ((c.length+d.length)*prog.bytesOf e) (by simp[DataW.weights,i]);have:=Nat.le_mul_of_pos_right (c.length+d.length) g;omega
def z0d{H:Type}{c j:List (DataW H)}{d:DataW H}{m:Nat}(i:prog.underlying t=some (.slice e))(g:d ∈ c)(h:m ∈ d.weights prog e):m ∈ (DataW.slice c j).weights prog t:=by
 simp only[DataW.weights,i,List.mem_cons,List.mem_append];exact .inr<|.inl (Rv g h)
def SA{H:Type}{enc:TypeId × Value->H}{o:Bool}{l:Nat}{x:DataW H × List MemPlace}(h:DataW.trod enc prog W 0 (λ_=>true) o l 55 [v]=some x):
  ∃(n:Nat) (fi fo ft:Nat->Int) (fw:Nat->ByteArray),(∀(D:MD) (i:Nat),D.na i=n->D.ain i=fi->D.aout i=fo->D.aw i=fw->D.ato i=ft->ArS none W v D i)/\(∀j,(fw j).size<=maxLen)/\
   ∀b,(∀m ∈ x.1.weights prog 55,m<=b)->n<=b:=by
 rcases open_slice underlying55 h with⟨g,_⟩|⟨a,len,a1,m,n',D,Pl,g,_,hl,S,s,L,hx⟩
 ·simp only[List.cons.injEq,and_true]at g;exact⟨0,λ_=>0,λ_=>0,λ_=>0,λ_=>⟨#[]⟩,λD i G _ _ _ _=>.inl ⟨G,none,0,g,Nat.zero_le _⟩,λ_=>Nat.zero_le _,λ_ _=>Nat.zero_le _⟩
 simp only[List.cons.injEq,and_true]at g;simp only[if_true]at s;subst s;have c4:prog.cellsOf 59=4:=by kernel_rfl
 have ci:prog.cellsOf 3=1:=by kernel_rfl
 have cs:prog.cellsOf 9=1:=by kernel_rfl
 classical
 have d:∀i,∃t:Int × Int × ByteArray × Int,t.2.2.1.size<=maxLen/\(i<m->W.cell? (a.add (i*4))=some (.int .i64 t.1)/\W.cell? (a.add (i*4+1))=some (.int .i64 t.2.1)/\W.cell? (a.add (i*4+2))=some (.string t.2.2.1)/\W.cell? (a.add (i*4+3))=some (.int .i64 t.2.2.2)):=λi=>by
  by_cases hi:i<m
  ·obtain⟨F,E,I⟩:=hx i hi;rw[c4]at E;obtain⟨_,p,c⟩:=World.cells?_some E;obtain⟨y0,y1,y2,y3,k,_,_,O,P,Q,R⟩:=trod_struct4 underlying59 I
   match F,p with
   | [v0,v1,v2,v3],_ =>
    simp only[ci,cs,List.drop_zero,List.drop_succ_cons,List.take_succ_cons,List.take_zero]at O P Q R;obtain⟨z0,e0,_⟩:=DataW.trod_int underlying3 O;obtain⟨X,e1,_⟩:=DataW.trod_int underlying3 P;obtain⟨Y,e2,_,K⟩:=DataW.trod_string underlying9 Q;obtain⟨Z,e3,_⟩:=DataW.trod_int underlying3 R;obtain rfl:v0=.int .i64 z0:=by simpa using e0
    obtain rfl:v1=.int .i64 X:=by simpa using e1
    obtain rfl:v2=.string Y:=by simpa using e2
    obtain rfl:v3=.int .i64 Z:=by simpa using e3
    have z:=c 0 (by omega);have A:=c 1 (by omega);have B:=c 2 (by omega);have C:=c 3 (by omega);rw[add_add]at z A B C;exact⟨(z0,X,Y,Z),K,λ_=>⟨by simpa using z,by simpa using A,by simpa using B,by simpa using C⟩⟩
  exact⟨(0,0,⟨#[]⟩,0),Nat.zero_le _,λh=>absurd h hi⟩
 obtain⟨T,J⟩:∃T:Nat->Int × Int × ByteArray × Int,∀i,(T i).2.2.1.size<=maxLen/\(i<m->W.cell? (a.add (i*4))=some (.int .i64 (T i).1)/\W.cell? (a.add (i*4+1))=some (.int .i64 (T i).2.1)/\W.cell? (a.add (i*4+2))=some (.string (T i).2.2.1)/\W.cell? (a.add (i*4+3))=some (.int .i64 (T i).2.2.2)) :=
  ⟨λi=>Classical.choose (d i),λi=>Classical.choose_spec (d i)⟩
 refine⟨len,λi=>(T i).1,λi=>(T i).2.1,λi=>(T i).2.2.2,λi=>(T i).2.2.1,λD i u E I h3 h4=>?_,λj=>(J j).1,λb hb=>?_⟩
 ·by_cases G:len=0
  ·rw[G]at u g;exact .inl ⟨u,some a,m,g,S⟩
  have c0:=((J 0).2 (by omega)).1;have U:a.spot=none:=by simpa [Addr.add] using World.cell?_spot c0
  obtain⟨b,N,sp⟩:=a;simp only at U;subst U;refine .inr ⟨b,N,m,by rw[u];exact g,⟨?_,by simp⟩,by rw[u];exact hl,S,λj hj=>?_⟩
  ·have:=World.block_lt_of_cell? _ _ c0;rw[Addr.add_lit]at this;exact this
  rw[u]at hj;obtain⟨z,A,B,C⟩:=(J j).2 (by omega);rw[Addr.add_lit]at z A B C;rw[E,I,h3,h4];exact⟨z,by rw[Nat.add_assoc];exact A,by rw[Nat.add_assoc];exact B,by rw[Nat.add_assoc];exact C⟩
 rw[L]at hb;have:=Qk underlying55 (by decide +kernel) hb
 simpa using this
def GR{H:Type}{enc:TypeId × Value->H}{r:Reach}{R:Nat}{l:Bool}{d:DataW H}{p:List MemPlace}(hv:Value.okWide prog W r R 24 v)(h:DataW.Trod enc prog W 0 (λ_=>true) l 24 v d p)
  (hw:∀m ∈ d.weights prog 24,m<=reachBytes):∃D,Ma none W v D/\MSz D:=by
 obtain⟨v0,v1,v2,v3,y0,y1,y2,y3,n,rfl,rfl,rfl,t0,t1,t2,t3⟩:=open_agg4 underlying24 (by kernel_rfl) (by kernel_rfl) hv h;obtain⟨z0,T,_,w0⟩:=DataW.trod_int underlying3 t0;obtain⟨I,U,_,w1⟩:=DataW.trod_int underlying3 t1;obtain⟨J,X,_,P⟩:=DataW.trod_string underlying9 t2;obtain rfl:v0=.int .i64 z0:=by simpa using T
 obtain rfl:v1=.int .i64 I:=by simpa using U
 obtain rfl:v2=.string J:=by simpa using X
 have g:∀m ∈ y3.1.weights prog 22,m<=reachBytes:=λm B=>hw m (by
  simp only[DataW.weights,underlying24,DataW.weightsEach,List.map_cons,List.mem_append,List.map_nil];exact .inr (.inr (.inr (.inl B))))
 have z:-9223372036854775808<=z0/\z0<=9223372036854775807:=by
  simp[Lit.wf,IntKind.min,IntKind.max,IntKind.signed,IntKind.bits]at w0;omega
 have L:reachBytes<=140737488355328:=by decide
 rcases open_slice_pairs underlying22 underlying57 (by kernel_rfl) rfl rfl (by kernel_rfl) (by kernel_rfl) t3 with⟨k,_⟩|⟨a,len,S,m,n',Q,K,D0,D1,P0,P1,k,_,hl,B,u,A,E⟩
 ·simp only[List.cons.injEq,and_true]at k;exact⟨{ kind:=z0,start:=I,lead:=J,n:=0,fin:=λ_=>⟨#[]⟩,na:=λ_=>0,ain:=λ_ _=>0,aout:=λ_ _=>0,aw:=λ_ _=>⟨#[]⟩,ato:=λ_ _=>0 },⟨_,rfl,.inl ⟨rfl,none,0,k,Nat.zero_le _⟩⟩,
   ⟨P,λ_=>Nat.zero_le _,λ_ _=>Nat.zero_le _,λ_=>Nat.zero_le _,Nat.zero_le _,z⟩⟩
 simp only[List.cons.injEq,and_true]at k;simp only[if_true]at u;subst u
 classical
 have c:∀i,∃t:ByteArray × Nat × (Nat->Int) × (Nat->Int) × (Nat->Int) × (Nat->ByteArray),t.1.size<=maxLen/\(∀j,(t.2.2.2.2.2 j).size<=maxLen)/\t.2.1<=reachBytes/\
   (i<len->Q i=.string t.1/\∀(D:MD) (j:Nat),D.na j=t.2.1->D.ain j=t.2.2.1->D.aout j=t.2.2.2.1->D.aw j=t.2.2.2.2.2->D.ato j=t.2.2.2.2.1->ArS none W (K i) D j):=λi=>by
  by_cases hi:i<len
  ·obtain⟨_,_,g0,g1⟩:=E i (by omega);obtain⟨s,e,_,C⟩:=DataW.trod_string underlying9 g0;obtain⟨na,Y,Z,ft,fw,h1,h2,h3⟩:=SA g1;refine⟨(s,na,Y,Z,ft,fw),C,h2,h3 _ λq hq=>g q ?_,λ_=>⟨by simpa using e,h1⟩⟩;rw[A];refine z0d underlying22 (List.mem_map.2 ⟨i,List.mem_range.2 hi,rfl⟩) ?_;simp only[DataW.weights,underlying57,DataW.weightsEach,List.map_cons,List.mem_append,List.map_nil];exact .inr<|.inl hq
  exact⟨(⟨#[]⟩,0,λ_=>0,λ_=>0,λ_=>0,λ_=>⟨#[]⟩),Nat.zero_le _,λ_=>Nat.zero_le _,Nat.zero_le _,λh=>absurd h hi⟩
 have o:len<=reachBytes:=by
  rw[A]at g;have:=Qk underlying22 (by decide +kernel) g
  simpa using this
 refine⟨{ kind:=z0,start:=I,lead:=J,n:=len,fin:=λi=>(Classical.choose (c i)).1,na:=λi=>(Classical.choose (c i)).2.1,ain:=λi=>(Classical.choose (c i)).2.2.1,aout:=λi=>(Classical.choose (c i)).2.2.2.1,aw:=λi=>(Classical.choose (c i)).2.2.2.2.2,ato:=λi=>(Classical.choose (c i)).2.2.2.2.1 },⟨_,rfl,?_⟩,
  ⟨P,λi=>(Classical.choose_spec (c i)).1,λi=>(Classical.choose_spec (c i)).2.1,λi=>Nat.le_trans (Classical.choose_spec (c i)).2.2.1 L,Nat.le_trans o L,z⟩⟩
 by_cases h0:len=0
 ·subst h0;exact .inl ⟨rfl,some a,m,k,B⟩
 have c0:=(E 0 (by omega)).1;have C:a.spot=none:=by simpa [Addr.add] using World.cell?_spot c0
 obtain⟨b,G,sp⟩:=a;simp only at C;subst C;refine .inr ⟨b,G,m,K,k,⟨?_,by simp⟩,hl,B,λj N=>?_⟩
 ·have:=World.block_lt_of_cell? _ _ c0;rw[Addr.add_lit]at this;exact this
 obtain⟨F,O,_,_⟩:=E j (by have:j<len:=N;omega);obtain⟨u1,u2⟩:=(Classical.choose_spec (c j)).2.2.2 N;rw[Addr.add_lit]at F O;rw[u1]at F;exact⟨F,by rw[Nat.add_assoc];exact O,u2 _ j rfl rfl rfl rfl rfl⟩
end
section
open Go.RowKit Go.Deep Go.ChangeShapes Go.WideShapes
def Es{H:Type}{enc:TypeId × Value->H}{W:World}{k:Bool}{g:Nat}{v:Value}{x:DataW H × List MemPlace}(h:DataW.trod enc prog W 0 (λ_=>true) k g 25 [v]=some x):
  ∃(n:Nat) (wk:Nat->Int),Rd none W v n λi=>.int .i64 (wk i):=by
 rcases open_slice1 underlying25 (by kernel_rfl) h with⟨d,_⟩|⟨a,len,A,m,G,V,D,Pl,d,_,C,s,l,_,o⟩
 ·simp only[List.cons.injEq,and_true]at d;exact⟨0,λ_=>0,.inl ⟨rfl,none,0,d,Nat.zero_le _⟩⟩
 simp only[List.cons.injEq,and_true]at d;simp only[if_true]at l;subst l
 classical
 have c:∀i,∃z:Int,i<m->V i=.int .i64 z:=λi=>by
  by_cases hi:i<m
  ·obtain⟨z,E,_⟩:=DataW.trod_int underlying3 (o i hi).2;exact⟨z,λ_=>by simpa using E⟩
  exact⟨0,λh=>absurd h hi⟩
 refine⟨len,λi=>Classical.choose (c i),?_⟩;by_cases B:len=0
 ·subst B;exact .inl ⟨rfl,some a,m,d,s⟩
 have c0:=(o 0 (by omega)).1;have u:a.spot=none:=by simpa [Addr.add] using World.cell?_spot c0
 obtain⟨b,p,I⟩:=a;simp only at u;subst u;refine .inr ⟨b,p,m,d,⟨?_,by simp⟩,C,s,λj F=>?_⟩
 ·have:=World.block_lt_of_cell? _ _ c0;rw[Addr.add_lit]at this;exact this
 have:=(o j (by omega)).1;rw[Addr.add_lit,Classical.choose_spec (c j) (by omega)]at this;exact this
end
section
open Go CSR
variable{D:MD}
theorem VM.inv(h:VM D):VM D.inv:=h.sym (φ:=λi o=>(o,i)) λi o c d g j=>⟨g,j,c,d⟩
theorem VM.inR(h:VM D):VM D.inR:=h.sym (φ:=λi _=>(i,i)) λi o c d g j=>⟨c,d,c,d⟩
theorem VM.outR(h:VM D):VM D.outR:=h.sym (φ:=λ_ o=>(o,o)) λi o g j c d=>⟨c,d,c,d⟩
def RU(D:MD):AccD D.inR:=λq d _ _=>rfl
def RX(D:MD):AccD D.outR:=λq d _ _=>rfl
def Wv.same{na nb:Nat}{x y:Nat->Int}{z d:ByteArray × Nat}(i:VM D)(h:Wv D na x nb y z)(g:Wv D na x nb y d)(j:z.2=0)(c:d.2=0):z.1=d.1:=h.eq g i rfl (λ_ _=>rfl) j c
def KI(D:MD):(revD D).kind=D.kind:=(BW D D.n).kind
def Yf(D:MD):(revD D).start=(D.n:Int):=(BW D D.n).start
def Yb(D:MD):(revD D).lead=D.lead:=(BW D D.n).lead
def Yd(d:VM D)(c:MSz D)(h:¬(8<D.n\/30<Ac D D.n)):VM (revD D):=Yg d c (by omega) (by omega)
end
end Go.Proofs.YteappjogmnogcaaGreatDoor
