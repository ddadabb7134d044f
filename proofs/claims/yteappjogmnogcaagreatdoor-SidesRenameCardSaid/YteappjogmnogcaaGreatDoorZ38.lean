/- Parts. -/
import Derived.Test.YteappjogmnogcaaGreatDoorZ35
import Derived.Test.YteappjogmnogcaaGreatDoorZ32
namespace Go.Proofs.YteappjogmnogcaaGreatDoor
set_option maxRecDepth 100000
set_option linter.all false
set_option maxHeartbeats 16000000
open Go Tryz
section
open Go.RowKit Go.Deep
variable{lv:Value}{n:Nat}
theorem Kd{pi po:Nat->Int}{s:Int}:∀{q},(∀j,j<q->pi j≠s)->mpO pi po q s=none
 |0,_=>rfl
 |q+1,h=>by
  unfold mpO;rw[Kd (q:=q) λj hj=>h j (by omega)];simp[h q (by omega)]
theorem Ol{pi po:Nat->Int}{s:Int}{i:Nat}(h:∀j,j<i->pi j≠s)(hi:pi i=s):∀{n},i<n->mpO pi po n s=some (po i)
 |0,hn=>by omega
 |n+1,hn=>by
  unfold mpO;by_cases e:i=n
  ·subst e;rw[Kd h];simp[hi]
  rw[Ol h hi (n:=n) (by omega)]
theorem Og{z B:Nat->Int}(w:World)(I:PrS none w lv n z B)(hn:n<=1000)(s:Int):Calls prog 74 #[lv,.int .i64 s] w (λr w'=>r=.returned (.int .i64 (mapF n z B s))/\w'=w):=by
 obtain⟨P,cl,Q,S,rfl,l,D,m,C,c⟩:=I.open;clear I m D C;replace l:=qh l;replace c:=qh c;obtain⟨A,d⟩:=exq<|mapF n z B s;rw[<-d];replace d:=qh d
 go_enter func74,ntmps74
 go_wp2_with fail
 go_loopw [5] (λF wr=>∃q:Nat,q<=n/\F=.int .i64 (q:Int)/\(∀j,j<q->z j≠s)/\wr=w) (λF _=>n-(intOf F).toNat)
 case atStart=>exact⟨0,Nat.zero_le _,rfl,λj N=>by omega,rfl⟩
 obtain⟨q,R,rfl,g,rfl⟩:=hrel;replace g:=qh g;by_cases o:q<n
 ·have O:(q:Int)<(n:Int):=by omega
  have J:(0:Int)<=(q:Int):=by omega
  obtain rfl:=l.o (by omega);obtain⟨c0,c1⟩:=c.o q o;obtain⟨G,h⟩:=exq<|z q;obtain⟨H,i⟩:=exq<|B q;rw[<-h]at c0;rw[<-i]at c1;replace h:=qh h;replace i:=qh i;by_cases E:G=s
  ·have p:A=H:=by rw[d.o];unfold mapF;rw[Ol g.o (by rw[<-h.o];exact E) o,i.o];rfl
   have k:=qh p;clear p;subst E;go_wp2;go_ret;exact⟨BK k.o.symm,rfl⟩
  have K:=qh E;go_wp2;go_roundw
  case rel =>
   refine⟨q+1,by omega,by go_num,λj N=>?_,by first|rfl|trivial⟩
   by_cases e:j=q
   ·rw[e,<-h.o];exact K.o
   exact g.o j (by omega)
  simp[intOf];omega
 have u:q=n:=by omega
 have L:¬((q:Int)<(n:Int)):=by omega
 have p:A=s:=by rw[d.o];unfold mapF;rw[Kd (by rw[<-u];exact g.o)];rfl
 have k:=qh p;clear p u;go_wp2;go_ret;exact⟨BK k.o.symm,rfl⟩
def TstW(Q:Prop)(w:World)(r:Ending)(w':World):Prop:=∃b:Bool,r=.returned (.bool b)/\(b=true↔Q)/\w'=w
def XS{p s:Nat->Int}(w:World)(K:PrS none w lv n p s)(hn:n<=1000):Calls prog 72 #[lv] w (TstW (RenOk n p s) w):=by
 obtain⟨U,cl,W,Y,rfl,o,F,u,E,c⟩:=K.open;clear K u F E;replace o:=qh o;replace c:=qh c
 go_enter func72,ntmps72
 go_wp2_with fail
 go_loopw [3] (λG wr=>∃q:Nat,q<=n/\G=.int .i64 (q:Int)/\RenOk q p s/\wr=w) (λG _=>n-(intOf G).toNat)
 case atStart=>exact⟨0,Nat.zero_le _,rfl,λj S=>by omega,rfl⟩
 obtain⟨q,X,rfl,k,rfl⟩:=hrel;replace k:=qh k;by_cases z:q<n
 ·have T:(q:Int)<(n:Int):=by omega
  have L:(0:Int)<=(q:Int):=by omega
  obtain rfl:=o.o (by omega);obtain⟨c0,c1⟩:=c.o q z;obtain⟨l,g⟩:=exq<|p q;obtain⟨m,i⟩:=exq<|s q;rw[<-g]at c0;rw[<-i]at c1;replace g:=qh g;replace i:=qh i;have d:=qh (show (l<1\/500<l\/m<0\/500<m)->¬RenOk n p s from λh B=>by have:=B q z;rw[<-g.o,<-i.o]at this;omega);by_cases H:l<1
  ·go_wp2;go_ret;exact⟨false,rfl,⟨(λh=>by cases h),λh=>absurd h (d.o (.inl H))⟩,rfl⟩
  have P:decide (l<1)=false:=by simp;omega
  by_cases B:500<l
  ·have C:decide ((500:Int)<l)=true:=by simp;omega
   go_wp2;go_ret;exact⟨false,rfl,⟨(λh=>by cases h),λh=>absurd h (d.o (.inr (.inl B)))⟩,rfl⟩
  have C:decide ((500:Int)<l)=false:=by simp;omega
  by_cases I:m<0
  ·go_wp2;go_ret;exact⟨false,rfl,⟨(λh=>by cases h),λh=>absurd h (d.o (.inr (.inr (.inl I))))⟩,rfl⟩
  have Q:decide (m<0)=false:=by simp;omega
  by_cases J:500<m
  ·have D:decide ((500:Int)<m)=true:=by simp;omega
   go_wp2;go_ret;exact⟨false,rfl,⟨(λh=>by cases h),λh=>absurd h (d.o (.inr (.inr (.inr J))))⟩,rfl⟩
  have D:decide ((500:Int)<m)=false:=by simp;omega
  have O:=qh (show RenOk (q+1) p s from λj S=>by
   by_cases e:j=q
   ·rw[e,<-g.o,<-i.o];omega
   exact k.o j (by omega))
  clear H B I J;go_wp2;go_roundw
  case rel=>exact⟨q+1,by omega,by go_num,O.o,by first|rfl|trivial⟩
  simp[intOf];omega
 have A:q=n:=by omega
 have R:¬((q:Int)<(n:Int)):=by omega
 have N:=qh (show RenOk n p s by rw[<-A];exact k.o);clear A;go_wp2;go_ret;exact⟨true,rfl,⟨λ_=>N.o,λ_=>rfl⟩,rfl⟩
def PK{D:MD}{mv:Value}{j:Nat}{k l:Nat->Int}(w:World)(hM:Ma none w mv D)(e0:MSz D)(hL:PrS none w lv j k l)(b8:j<=1000):Calls prog 33 #[mv,lv] w (MkE (VM D/\RenOk j k l) (D.ren (mapF j k l)) 1 w):=by
 obtain⟨sv,rfl,hS⟩:=hM;obtain⟨a,cp,b,g8,A,C,BB,O,rfl,_⟩:=hS.open;obtain⟨T,N⟩:=exq<|#[Value.int .i64 0,.int .i64 0,.string ⟨#[]⟩,.slice none 0 0];obtain⟨w1,L⟩:=exq<|w.alloc (.cells #[.int .i64 D.kind,.int .i64 D.start,.string D.lead,.slice a D.n cp] 24);obtain⟨w3,Q⟩:=exq<|w1.alloc (.cells #[.int .i64 0,.int .i64 0,.string ⟨#[]⟩,.slice none 0 0] 24);have e1:w1.heap.size=w.heap.size+1:=by rw[L];simp
 have d8:Fr (λ_=>False) w w1:=by rw[L];exact Fr.alloc _ _
 have b6:Fr (λ_=>False) w1 w3:=by rw[Q];exact Fr.alloc _ _
 have d9:w1.heap[w.heap.size]?=some (.cells #[.int .i64 D.kind,.int .i64 D.start,.string D.lead,.slice a D.n cp] 24 (0,0)):=by rw[L];exact han w _
 have b7:w3.heap[w.heap.size+1]?=some (.cells T 24 (0,0)):=by rw[<-e1,Q,N];exact han w1 _
 have a2:w3.heap[w.heap.size]?=some (.cells #[.int .i64 D.kind,.int .i64 D.start,.string D.lead,.slice a D.n cp] 24 (0,0)):=(b6.block _ (by omega) (λe=>e)).trans d9;have b5:Below w.heap.size w w3:=(d8.trans b6).below nlr (λ_ e=>e.elim);obtain⟨mb,a4⟩:=exq<|w.heap.size;obtain⟨z,c9⟩:=exq<|w.heap.size+1;have b9:w.heap.size<=z:=by omega
 rw[<-a4]at a2;rw[<-c9]at b7;obtain⟨⟨m0,m1,m2,m3⟩,_⟩:=cells4 a2;have d5:=qh<|CR w3 (⟨_,rfl,hS.kept (Ab b5 none)⟩:Ma none w3 (.agg #[.int .i64 D.kind,.int .i64 D.start,.string D.lead,.slice a D.n cp]) D) e0;have e3:=qh<|show ∀W,Below w.heap.size w W->Ma none W (.agg #[.int .i64 D.kind,.int .i64 D.start,.string D.lead,.slice a D.n cp]) D from λW h=>⟨_,rfl,hS.kept (Ab h none)⟩;have b0:=qh<|show ∀W,Below w.heap.size w W->PrS none W lv j k l from λW h=>hL.kept (Ab h none);clear hL;clear d8 b6 d9 e1 hS e0;have a7:=qh b5;clear b5;have a9:=qh a2;clear a2;have b1:=qh b7;clear b7;replace N:=qh N;rw[a4,Q,L]at m0 m1 m2 m3
 go_enter func33,ntmps33
 go_wp2_with fail
 rw[<-L,<-Q,<-c9,<-a4];clear m0 m1 m2 m3 L Q c9 a4;refine d5.o.mono ?_;rintro r w4⟨X,hr⟩;have m:=a7.o.trans<|X.mono a7.o.size;have a3:=(X.block _ (lbk a9.o)).trans a9.o;have p:=(X.block _ (lbk b1.o)).trans b1.o;clear X d5 a7 a9 b1;replace m:=qh m;have e6:=qh p
 rcases hr with⟨hv,rfl⟩|⟨hv,rfl⟩
 rotate_left
 ·rw[N.o]at p;obtain⟨⟨r0,r1,r2,r3⟩,s⟩:=cells4 p;have f0:=s 0;have f1:=s 1;have f2:=s 2;have f3:=s 3;clear s a3;have HV:=qh hv;clear hv;have a8:=qh p;clear p
  go_wp2_with fail
  refine bodyPost_ret (AH rfl _ (b:=z) rfl rfl (AG w4 z _ _ _ _ a8.o)) rfl ⟨AF m.o b9 _ _ _ _,.inr ⟨λh=>HV.o h.1,rfl⟩⟩
 have d3:=qh<|MC w4 (e3.o w4 m.o) hv;have HV:=qh hv;clear hv
 go_wp2_with fail
 refine(XS w4 (b0.o w4 m.o) b8).mono ?_;rintro r g1⟨bb,rfl,Y,rfl⟩;cases bb
 ·rw[N.o]at p;obtain⟨⟨r0,r1,r2,r3⟩,s⟩:=cells4 p;have f0:=s 0;have f1:=s 1;have f2:=s 2;have f3:=s 3;clear s a3;have e2:=qh (show ¬RenOk j k l from λh=>by have:=Y.2 h;cases this);clear Y;have a8:=qh p;clear p
  go_wp2_with fail
  refine bodyPost_ret (AH rfl _ (b:=z) rfl rfl (AG g1 z _ _ _ _ a8.o)) rfl ⟨AF m.o b9 _ _ _ _,.inr ⟨λh=>e2.o h.2,rfl⟩⟩
 have e7:=qh<|Y.1 rfl;clear Y;clear p;obtain⟨⟨m0,m1,m2,m3⟩,_⟩:=cells4 a3;clear a3
 go_wp2_with fail
 clear m0 m1 m2 m3;refine d3.o.mono ?_;rintro r w5⟨d6,sv,R,rfl,ho⟩;clear d3;have u:=ChI.start m.o e6.o d6 ho;obtain⟨w6,a6⟩:=exq<|w5.alloc (.cells #[.int .i64 D.kind,.int .i64 D.start,.string D.lead,sv] 24);obtain⟨nb,c7⟩:=exq<|w5.heap.size;rw[<-a6,<-c7]at u;have HI:=qh (show ChI w w6 z nb T D (D.symP (λi o=>(mapF j k l i,mapF j k l o)) 0 0) sv R from by rw[QE];exact u);clear u ho d6;have f5:1<=D.n:=HV.o.n1;obtain⟨g,gp,d0,_,_,f4,e9⟩:=DL HI.o.ow.top (show 0<D.n by omega);have d0:sv=.slice (some (Ad g 0)) D.n gp:=d0;subst d0;have f7:D.n<=3000:=HV.o.n2;have E:∀i,i<D.n->D.na i<=30000:=λi hi=>by have h1:=Nat.le_trans (BA D (show i+1<=D.n by omega)) HV.o.arcs;have h2:Ac D (i+1)=Ac D i+D.na i:=rfl;omega
 have e4:=qh E;clear E;unfold maxLen at e9;obtain⟨n,hn⟩:=exq<|D.n;rw[<-hn]at f5 f7;have HN:=qh hn;rw[<-hn];rw[<-hn]at HI a6;clear hn f4
 go_wp2_with fail
 rw[<-a6,<-c7];clear c7 a6
 go_loopw [7,8,9] (λv7 _ _ wr=>∃q:Nat,q<=n/\v7=.int .i64 (q:Int)/\ChI w wr z nb T D (D.symP (λi o=>(mapF j k l i,mapF j k l o)) q 0) (.slice (some (Ad g 0)) n gp) R) (λv7 _ _ _=>n-(intOf v7).toNat)
 case atStart=>exact⟨0,Nat.zero_le _,rfl,HI.o⟩
 obtain⟨q,hq,rfl,u⟩:=hrel;clear HI;obtain⟨⟨q0,q1,q2,q3⟩,_⟩:=cells4 u.kn;clear q0 q1 q2;have B:=qh u;clear u;by_cases g5:q<n
 ·have f8:(q:Int)<(n:Int):=by omega
  have g3:(0:Int)<=(q:Int):=by omega
  have J:q<D.n:=by have:=HN.o;omega
  obtain⟨ra,rc,hR,g7,g0⟩:=AC<|B.o.ow.row q J;unfold maxLen at g0;obtain⟨na,E⟩:=exq<|D.na q;have hR:R q=.slice ra na rc:=by rw[E];exact hR
  have g6:na<=30000:=by rw[E];exact e4.o q J
  have HR:=qh hR;clear hR;have U:=qh E;clear E
  go_wp2_with fail
  clear q3
  go_loopw [8,9] (λv8 _ wr=>∃d:Nat,d<=na/\v8=.int .i64 (d:Int)/\ChI w wr z nb T D (D.symP (λi o=>(mapF j k l i,mapF j k l o)) q d) (.slice (some (Ad g 0)) n gp) R) (λv8 _ _=>na-(intOf v8).toNat)
  case atStart=>exact⟨0,Nat.zero_le _,rfl,B.o⟩
  obtain⟨d,hd,rfl,u⟩:=hrel;clear B;obtain⟨⟨q0,q1,q2,q3⟩,_⟩:=cells4 u.kn;clear q0 q1 q2;have ho:=u.ow;rw[HN.o]at ho;have a0:=OwM.arcs_cell (D:=D.symP (λi o=>(mapF j k l i,mapF j k l o)) q d) (i:=q) (g:=g) (cap:=gp) ho J;rw[HR.o]at a0;by_cases g4:d<na
  ·have e8:(d:Int)<(na:Int):=by omega
   have g2:(0:Int)<=(d:Int):=by omega
   obtain⟨H,cq,F,_⟩:=DL (ho.row q J) (by show 0<D.na q;have:=U.o;omega);have F:R q=.slice (some (Ad H 0)) (D.na q) cq:=F;have f9:ra=some (Ad H 0):=by rw[HR.o]at F;injection F
   subst f9;obtain⟨⟨c0,c1⟩,fz⟩:=ho.io J (by show d<D.na q;have:=U.o;omega) F;rw[(IE _ D q d).1]at c0;rw[(IE _ D q d).2]at c1;obtain⟨ai,b3⟩:=exq<|D.ain q d;obtain⟨ao,b4⟩:=exq<|D.aout q d;rw[<-b3]at c0;rw[<-b4]at c1;obtain⟨bi,Z⟩:=exq<|mapF j k l ai;obtain⟨bo,a1⟩:=exq<|mapF j k l ao;have a5:=u.setIO (b:=H) (ac:=cq) (q:=q) (d:=d) J (by show d<D.na q;have:=U.o;omega) F bi bo;have a5:ChI w ((wr.setCell (Ad H (d*4)) (.int .i64 bi)).setCell (Ad H (d*4+1)) (.int .i64 bo)) z nb T D (D.symP (λi o=>(mapF j k l i,mapF j k l o)) q (d+1)) (.slice (some (Ad g 0)) n gp) R:=by
    have h:=QD (λi o=>(mapF j k l i,mapF j k l o)) D q d;rw[<-h,<-b3,<-b4];show ChI w _ z nb T D ((D.symP (λi o=>(mapF j k l i,mapF j k l o)) q d).setIO q d (mapF j k l ai) (mapF j k l ao)) _ R;rw[<-Z,<-a1];exact a5
   replace Z:=qh Z;replace a1:=qh a1;have d2:=qh u.be;have d4:=qh a5;clear a5 F ho u b3 b4;have f0:=fz<|d*4;have f1:=fz<|d*4+1;clear fz
   go_wp2_with fail
   clear q3 a0;obtain⟨S,G⟩:=exq<|wr.drew;have c:S.cell? (Ad H (d*4))=some (.int .i64 ai)/\S.cell? (Ad H (d*4+1))=some (.int .i64 ao):=by rw[G];exact⟨c0,c1⟩
   have f0:S.frozen? (Ad H (d*4))=false:=by rw[G];exact f0
   have f1:S.frozen? (Ad H (d*4+1))=false:=by rw[G];exact f1
   have e5:Hd (ChI w ((S.setCell (Ad H (d*4)) (.int .i64 bi)).setCell (Ad H (d*4+1)) (.int .i64 bo)) z nb T D (D.symP (λi o=>(mapF j k l i,mapF j k l o)) q (d+1)) (.slice (some (Ad g 0)) n gp) R):=qh (by rw[G];exact d4.o.drewS);clear c0 c1 d4;have d1:=qh (show Below w.heap.size w S by rw[G];exact d2.o.drew);clear d2;refine Io (λwk=>wk.cell? (Ad H (d*4))=some (.int .i64 ai)/\wk.cell? (Ad H (d*4+1))=some (.int .i64 ao)) [1,14,15,16,17,18,19] (by kernel_rfl) ?_;rw[<-G];clear G;refine AnyL.tq 1 ?_
   try simp only[Act.put,tryL]
   refine AnyL.tm 0 c ?_;refine AnyL.tm 2 c ?_;refine AnyL.tm 3 c ?_;refine AnyL.tm 4 c ?_;refine AnyL.tm 5 c ?_;refine AnyL.tm 6 c ?_;refine AnyL.tm 8 c ?_;refine AnyL.tm 9 c ?_;refine AnyL.tm 10 c ?_;refine AnyL.tm 11 c ?_;refine AnyL.tm 12 c ?_
   try simp only[Act.put,tryL]
   refine AnyL.on 7 λK P=>?_;go_simp;refine(Og S (b0.o S d1.o) b8 ai).mono ?_;rintro r we⟨rfl,rfl⟩;rw[<-Z.o];refine P.out _ _ (.inr c) ?_;clear P K
   try simp only[Act.put,tryL]
   refine AnyL.on 13 λK P=>?_;go_simp;refine(Og _ (b0.o _ d1.o) b8 ao).mono ?_;rintro r we⟨rfl,rfl⟩;rw[<-a1.o];refine P.out _ _ (.inr c) ?_;clear P K;refine AnyL.loose' (by kernel_rfl) ?_
   try simp only[Act.put,tryL]
   obtain⟨c0,c1⟩:=c;refine AnyL.tm 14 trivial ?_;refine AnyL.tm 15 trivial ?_
   try simp only[Act.put,tryL]
   refine AnyL.on 16 λK P=>?_;go_simp;refine P.out _ _ (.inr trivial) ?_;clear P K
   try simp only[Act.put,tryL]
   refine AnyL.tm 17 trivial ?_;refine AnyL.tm 18 trivial ?_
   try simp only[Act.put,tryL]
   refine AnyL.on 19 λK P=>?_;go_simp;refine P.out _ _ (.inr trivial) (AnyL.dn ?_);clear P K c0 c1 f0 f1;go_wp2;go_roundw
   case rel=>exact⟨d+1,by omega,by go_num,e5.o⟩
   simp[intOf];omega
  have d7:d=na:=by omega
  have b2:ChI w wr z nb T D (D.symP (λi o=>(mapF j k l i,mapF j k l o)) (q+1) 0) (.slice (some (Ad g 0)) n gp) R:={ u with ow:=by have h:=u.ow;rw[d7,U.o]at h;exact h.symRow };replace b2:=qh b2;clear u ho;have e8:¬((d:Int)<(na:Int)):=by omega
  clear d7;go_wp2;go_roundw
  case rel=>exact⟨q+1,by omega,by go_num,b2.o⟩
  simp[intOf];omega
 have c8:q=D.n:=by have:=HN.o;omega
 have f8:¬((q:Int)<(n:Int)):=by omega
 have I:=B.o.kr;rw[N.o]at I;obtain⟨⟨r0,r1,r2,r3⟩,s⟩:=cells4 I;have f0:=s 0;have f1:=s 1;have f2:=s 2;have f3:=s 3;clear s;obtain⟨⟨m0,m1,m2,m3⟩,_⟩:=cells4 B.o.kn;replace c8:=qh c8;clear q3;replace I:=qh I
 go_wp2_with fail
 refine bodyPost_ret (AH rfl _ (b:=z) rfl rfl (AG wr z _ _ _ _ I.o)) rfl ⟨AF B.o.be b9 _ _ _ _,.inl ⟨⟨HV.o,e7.o⟩,_,R,rfl,?_⟩⟩;exact(B.o.ow.symAll c8.o).box4 I.o _ _ _ _
end
end Go.Proofs.YteappjogmnogcaaGreatDoor
