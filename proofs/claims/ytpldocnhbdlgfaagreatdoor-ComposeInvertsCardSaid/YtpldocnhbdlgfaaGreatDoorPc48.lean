/- Parts. -/
import Derived.Test.YtpldocnhbdlgfaaGreatDoorPc46
import Derived.Test.YtpldocnhbdlgfaaGreatDoorPc41
import Derived.Test.YtpldocnhbdlgfaaGreatDoorPc45
namespace Go.Proofs.YtpldocnhbdlgfaaGreatDoor
set_option maxRecDepth 100000
set_option linter.all false
set_option maxHeartbeats 16000000
open Go Tryz
section
open Go.RowKit Go.Deep
def NotLg(n:Nat)(Ds:Nat->MD)(m:Nat)(na:Nat->Nat):Prop:=(∀i,i<n->(Ds i).n<=12/\Ai (Ds i) (Ds i).n<=60)/\∀i,i<m->na i<=8
def LgE(n:Nat)(Ds:Nat->MD)(m:Nat)(na:Nat->Nat)(w:World)(r:Ending)(w':World):Prop:=Below w.heap.size w w'/\∃b:Bool,r=.returned (.bool b)/\(b=false->NotLg n Ds m na)
def Ty{n m:Nat}{d:Nat->MD}{na:Nat->Nat}{lv wv:Value}(w:World)(hl:MsS w lv n d)(hw:WsS w wv m na)(hs:∀i,i<n->MSz (d i))(hm:m<=3)(g:∀i,i<m->na i<=140737488355328):
  Calls prog 12 #[lv,wv] w (LgE n d m na w):=by
 obtain⟨a,h0,b,B,F,rfl,h2,h3,h4,h5⟩:=hl;obtain⟨a',e7,b',g8,A,C,rfl,g2,g3,g4,g5⟩:=hw;have i7:(n:Int)<=9223372036854775807:=by unfold maxLen at h3;omega
 replace h5:=qh h5;replace g5:=qh g5;replace h4:=qh h4;have b0:=qh g4;clear g4;have HS:=qh hs;clear hs;have P:=qh g;clear g;have g9:=qh hm;clear h2 h3 g2 g3
 go_enter func12,ntmps12
 go_wp2_with fail
 go_loopw [5,6] (λy i W=>∃(j E:Nat),j<=m/\i=.int .i64 (j:Int)/\y=.int .i64 (E:Int)/\E=sM na j/\w=W) (λ_ i _=>m-(intOf i).toNat)
 case atStart=>exact⟨0,0,Nat.zero_le _,rfl,rfl,rfl,rfl⟩
 obtain⟨j,E,hj,rfl,rfl,o,rfl⟩:=hrel;have j1:E<=422212465065984:=by
  rw[o];exact Nat.le_trans (Oy j λi hi=>P.o i (by omega)) (by omega)
 replace o:=qh o;by_cases J:j<m
 ·have i4:(j:Int)<(m:Int):=by omega
  have f8:(0:Int)<=(j:Int):=by omega
  obtain rfl:=b0.o (by omega);obtain⟨O,c0⟩:=g5.o j J;have d8:=P.o j J;clear O;obtain⟨nj,z⟩:=exq<|na j;rw[<-z]at c0 d8;replace z:=qh z;generalize A j=aj at c0;generalize C j=cj at c0;have j0:IntKind.i64.wrap ((E:Int)+(nj:Int))=((E+nj:Nat):Int):=by rw[IntKind.wrap_i64];omega
  go_wp2;go_roundw
  case rel=>exact⟨j+1,E+nj,by omega,by go_num,by first|rfl|go_num,by rw[o.o,z.o];rfl,by first|rfl|trivial⟩
  simp[intOf];omega
 have i3:¬((j:Int)<(m:Int)):=by omega
 have b8:=qh (show j=m by omega);clear J
 go_wp2_with fail
 go_loopw [7] (λi W=>∃q:Nat,q<=n/\i=.int .i64 (q:Int)/\(∀l,l<q->(d l).n<=12/\Ai (d l) (d l).n<=60)/\Below w.heap.size w W) (λi _=>n-(intOf i).toNat)
 case atStart=>exact⟨0,Nat.zero_le _,rfl,λl hl=>by omega,blr⟩
 obtain⟨q,hq,rfl,a7,a4⟩:=hrel;have H:=qh a7;clear a7;have c:=qh a4;clear a4;by_cases a6:q<n
 rotate_left
 ·have e8:¬((q:Int)<(n:Int)):=by omega
  have b9:=qh (show q=n by omega);by_cases h8:(8:Int)<(E:Int)
  ·go_wp2;go_ret;exact⟨c.o,_,rfl,λh=>by simp[h8]at h⟩
  have h6:decide ((8:Int)<(E:Int))=false:=by simp;omega
  have HP:=qh (show NotLg n d m na from ⟨by rw[<-b9.o];exact H.o,λi hi=>by
   have h1:=Ox (f:=na) m i hi;have h2:=o.o;rw[b8.o]at h2;omega⟩)
  go_wp2;go_ret;exact⟨c.o,_,rfl,λ_=>HP.o⟩
 have i8:(q:Int)<(n:Int):=by omega
 have g1:(0:Int)<=(q:Int):=by omega
 obtain rfl:=h4.o (by omega);obtain⟨O,k1,k2,k3,k4,k5⟩:=h5.o q a6;obtain⟨D,hD⟩:=exq<|d q;have N:=HS.o q a6;rw[<-hD]at k1 k2 k3 k5 N;obtain⟨sa,sc,sb,so,B1,C1,B2,O1,a9,e1,e2,e3,e4,e5⟩:=k5.open;rw[a9]at k4 k5;clear a9;unfold maxLen at e3;have h9:(D.n:Int)<=9223372036854775807:=by omega
 have HK:=qh<|show ∀W,Below w.heap.size w W->W.cell? (Ad b (B+q*4))=some (.int .i64 D.kind)/\W.cell? (Ad b (B+q*4+1))=some (.int .i64 D.start)/\W.cell? (Ad b (B+q*4+2))=some (.string D.lead)/\W.cell? (Ad b (B+q*4+3))=some (.slice sa D.n sc) from λW hb=>⟨(hb.cell (p:=(Ad b _)) O).trans k1,(hb.cell (p:=(Ad b _)) O).trans k2,(hb.cell (p:=(Ad b _)) O).trans k3,(hb.cell (p:=(Ad b _)) O).trans k4⟩;have d2:=qh<|show ∀W,Below w.heap.size w W->Ma none W (.agg #[.int .i64 D.kind,.int .i64 D.start,.string D.lead,.slice sa D.n sc]) D from λW hb=>⟨_,rfl,k5.kept (Ae hb none)⟩;replace N:=qh N;replace hD:=qh hD;have b2:=qh e1;have b3:=qh e4;have b4:=qh e5;clear O k1 k2 k3 k4 k5 e1 e2 e3 e4 e5;obtain⟨c0,c1,c2,c3⟩:=HK.o wr c.o;have i6:=N.o.lead;by_cases d3:(12:Int)<(D.n:Int)
 ·go_wp2;go_ret;exact⟨c.o,true,rfl,λh=>by cases h⟩
 have Y:decide ((12:Int)<(D.n:Int))=false:=by simp;omega
 have G:=qh<|Qz wr (d2.o wr c.o) N.o (by omega);have b1:=qh (show D.n<=12 by omega);obtain⟨T,I⟩:=exq<|Ai D D.n;rw[<-I]at G;have R:=qh I;clear I d3
 go_wp2_with fail
 refine G.o.mono ?_;rintro r w2⟨rfl,g⟩;replace c:=qh<|c.o.trans (g.mono c.o.size);clear g c0 c1 c2 c3 G;obtain⟨c0,c1,c2,c3⟩:=HK.o w2 c.o;by_cases d5:(60:Int)<(T:Int)
 ·go_wp2;go_ret;exact⟨c.o,true,rfl,λh=>by cases h⟩
 have a1:decide ((60:Int)<(T:Int))=false:=by simp;omega
 have Q:=qh (show T<=60 by omega);clear d5;by_cases d4:(40:Int)<(D.lead.size:Int)
 ·go_wp2;go_ret;exact⟨c.o,true,rfl,λh=>by cases h⟩
 have Z:decide ((40:Int)<(D.lead.size:Int))=false:=by simp;omega
 clear d4;have S:=qh (show ∀l,l<q+1->(d l).n<=12/\Ai (d l) (d l).n<=60 from λl hl=>by
  by_cases e:l=q
  ·rw[e,<-hD.o,<-R.o];exact⟨b1.o,Q.o⟩
  exact H.o l (by omega))
 clear H R Q
 go_wp2_with fail
 clear Y a1 Z
 go_loopw [8] (λi W=>∃s:Nat,s<=D.n/\i=.int .i64 (s:Int)/\w2=W) (λi _=>D.n-(intOf i).toNat)
 case atStart=>exact⟨0,Nat.zero_le _,rfl,rfl⟩
 obtain⟨s,hs,rfl,rfl⟩:=hrel;by_cases d9:s<D.n
 rotate_left
 ·have e9:¬((s:Int)<(D.n:Int)):=by omega
  go_wp2;go_roundw
  case rel=>exact⟨q+1,by omega,by go_num,S.o,c.o⟩
  simp[intOf];omega
 have i9:(s:Int)<(D.n:Int):=by omega
 have g6:(0:Int)<=(s:Int):=by omega
 obtain rfl:=b2.o (by omega);have a8:=(b3.o (by omega)).1;obtain⟨f1,U,f3,f4,X,f6,f7⟩:=b4.o s d9;have d0:=(c.o.cell (p:=(Ad sb _)) a8).trans f1;have d1:=(c.o.cell (p:=(Ad sb _)) a8).trans U;unfold maxLen at f4;obtain⟨nd,K⟩:=exq<|D.na s;rw[<-K]at d1 f3;have g0:(nd:Int)<=9223372036854775807:=by omega
 generalize C1 s=cs at d1 f3 f4;obtain⟨ax,a2⟩:=exq<|B1 s;rw[<-a2]at d1 X;rw[<-K]at X f6 f7;obtain⟨bx,u⟩:=exq<|B2 s;obtain⟨ox,L⟩:=exq<|O1 s;rw[<-u,<-L]at X;rw[<-u]at f6;rw[<-u,<-L]at f7;have b5:=qh X;have b6:=qh f6;have b7:=qh f7;clear f1 U f3 f4 X f6 f7 a2 u L K;have i2:=N.o.fin s;by_cases d6:(40:Int)<((D.fin s).size:Int)
 ·go_wp2;go_ret;exact⟨c.o,true,rfl,λh=>by cases h⟩
 have a5:decide ((40:Int)<((D.fin s).size:Int))=false:=by simp;omega
 clear d6
 go_wp2_with fail
 clear a5 d0
 go_loopw [9] (λi W=>∃k:Nat,k<=nd/\i=.int .i64 (k:Int)/\w2=W) (λi _=>nd-(intOf i).toNat)
 case atStart=>exact⟨0,Nat.zero_le _,rfl,rfl⟩
 obtain⟨k,hk,rfl,rfl⟩:=hrel;by_cases d7:k<nd
 rotate_left
 ·have f0:¬((k:Int)<(nd:Int)):=by omega
  go_wp2;go_roundw
  case rel=>exact⟨s+1,by omega,by go_num,by first|rfl|trivial⟩
  simp[intOf];omega
 have i5:(k:Int)<(nd:Int):=by omega
 have f9:(0:Int)<=(k:Int):=by omega
 obtain rfl:=b5.o (by omega);have e6:=(b6.o (by omega)).1;obtain⟨_,_,U,_⟩:=b7.o k d7;have u2:=(c.o.cell (p:=(Ad bx _)) e6).trans U;clear U;have h7:=N.o.aw s k;by_cases e0:(40:Int)<((D.aw s k).size:Int)
 ·go_wp2;go_ret;exact⟨c.o,true,rfl,λh=>by cases h⟩
 have g7:decide ((40:Int)<((D.aw s k).size:Int))=false:=by simp;omega
 clear e0;go_wp2;go_roundw
 case rel=>exact⟨k+1,by omega,by go_num,by first|rfl|trivial⟩
 simp[intOf];omega
end
section
open CSR
section
variable{D:MD}(hV:VM D){k:KK}(hk:k.1=D.kind)
include hV hk
end
end
section
open Go.RowKit Go.Deep

end
section
open Go CSR
section
variable{A B M:MD}(hA:VM A)(hB:VM B)(hkk:A.kind=B.kind)(hSA:MSz A)(hSB:MSz B){al:Nat->Bool}{n:Nat}(h:CmpIs A B al n M)
include hA hB hkk hSA hSB h
end
section
variable{D M:MD}(hD:VM D)(hSD:MSz D){na:Nat}{x:Nat->Int}(hx:isWord na x=true){al:Nat->Bool}(hal:∀p,al p=true\/∀k,k<(wrd D na x).na p->(wrd D na x).aout p k≠0){n:Nat}(h:CmpIs (wrd D na x) D al n M)
include hD hSD hx hal h
end
theorem Ek{D:MD}(h:VM D):VM D.inv:=h.sym (φ:=λi o=>(o,i)) λi o c d g j=>⟨g,j,c,d⟩
theorem VP{A B M N:MD}(c:VM A)(d:VM B)(i:A.kind=B.kind)(o:MSz A)(p:MSz B){n s:Nat}(i1:CmpIs A B (alF A) n M)(l:CmpIs B.inv A.inv (alF B.inv) s N){k:KK}(j:k.1=A.kind)(x y:List Int):rel (rmOf k M) x y=rel (rmOf k N.inv) x y:=by
 have g:MSz A.inv:={ o with };have h:MSz B.inv:={ p with };obtain⟨m,_,_,_⟩:=l.vm (Ek d) (Ek c) i.symm h g;have c1:=i1.cmp c d i o p (Ll A) j x y;have c2:=l.cmp (Ek d) (Ek c) i.symm h g (Ll _) (j.trans i) y x;have c3:=c1.inv (f':=rel (rmOf k B.inv)) (g':=rel (rmOf k A.inv)) (λz=>(Kd (c.inn k) (c.stn k) z x).symm) (λz=>(Kd (d.inn k) (d.stn k) y z).symm);have e:=c3.eq c2;rw[e];exact(Kd (m.inn k) (m.stn k) x y).symm
end
section
open Go.RowKit Go.Deep
variable{A B:MD}{w w':World}
def CmTw(A B:MD)(w:World)(r:Ending)(w':World):Prop :=
 Below w.heap.size w w'/\((A.kind=B.kind/\∃n M,CmpIs A B (alF A) n M/\∃sv R,r=.returned (.tuple #[.agg #[.int .i64 M.kind,.int .i64 M.start,.string M.lead,sv],.int .i64 0])/\OwM w' w.heap.size sv M R)\/∃e:Int,¬(e=0)/\r=.returned (.tuple #[AP,.int .i64 e]))
def CmE.two{r:Ending}(h:CmE A B w r w')(c:VM A)(d:VM B):CmTw A B w r w':=by
 obtain⟨hb,h⟩:=h;refine⟨hb,?_⟩
 rcases h with⟨_,_,g,h|⟨_,h⟩⟩|⟨_,_,_,h⟩|⟨h,_⟩
 ·exact .inl ⟨g,h⟩
 ·exact .inr ⟨2,by omega,h⟩
 ·exact .inr ⟨6,by omega,h⟩
 exact absurd ⟨c,d⟩ h
def CmRw(w:World)(r:Ending)(w':World):Prop :=
 Below w.heap.size w w'/\∃(k s:Int) (l:ByteArray) (a:Option Addr) (n c:Nat) (e:Int),r=.returned (.tuple #[.agg #[.int .i64 k,.int .i64 s,.string l,.slice a n c],.int .i64 e])
def CmE.raw{r:Ending}(h:CmE A B w r w'):CmRw w r w':=by
 obtain⟨hb,h⟩:=h;refine⟨hb,?_⟩
 rcases h with⟨_,_,g,⟨n,M,_,sv,R,h,d⟩|⟨_,h⟩⟩|⟨_,_,_,h⟩|⟨_,h⟩
 ·obtain⟨a,c,e,_⟩:=Au d.top;rw[e]at h;exact⟨_,_,_,_,_,_,_,h⟩
 all_goals exact⟨_,_,_,_,_,_,_,h⟩
end
section
open Go.RowKit Go.Deep Go.ChangeShapes Go.WideShapes Go.Joins
variable{W:World}{v:Value}
def IC{H:Type}{enc:TypeId × Value->H}{k:Bool}{g:Nat}{x:DataW H × List MemPlace}(h:DataW.trod enc prog W 0 (λ_=>true) k g 26 [v]=some x):
  ∃(n:Nat) (wk:Nat->Int),Si none W v n wk/\∀b,(∀m ∈ x.1.weights prog 26,m<=b)->n<=b:=by
 rcases open_slice1 underlying26 (by kernel_rfl) h with⟨d,_⟩|⟨a,len,B,m,I,V,D,Pl,d,_,E,u,l,p,o⟩
 ·simp only[List.cons.injEq,and_true]at d;exact⟨0,λ_=>0,.inl ⟨rfl,none,0,d,Nat.zero_le _⟩,λ_ _=>Nat.zero_le _⟩
 simp only[List.cons.injEq,and_true]at d;simp only[if_true]at l;subst l
 classical
 have c:∀i,∃z:Int,i<m->V i=.int .i64 z:=λi=>by
  by_cases hi:i<m
  ·obtain⟨z,F,_⟩:=DataW.trod_int underlying3 (o i hi).2;exact⟨z,λ_=>by simpa using F⟩
  exact⟨0,λh=>absurd h hi⟩
 refine⟨len,λi=>Classical.choose (c i),?_,λb hb=>?_⟩
 ·by_cases C:len=0
  ·subst C;exact .inl ⟨rfl,some a,m,d,u⟩
  have c0:=(o 0 (by omega)).1;have A:a.spot=none:=by simpa [Addr.add] using World.cell?_spot c0
  obtain⟨b,s,J⟩:=a;simp only at A;subst A;refine .inr ⟨b,s,m,d,⟨?_,by simp⟩,E,u,λj G=>?_⟩
  ·have:=World.block_lt_of_cell? _ _ c0;rw[Addr.add_lit]at this;exact this
  have:=(o j (by omega)).1;rw[Addr.add_lit,Classical.choose_spec (c j) (by omega)]at this;exact this
 rw[p]at hb;have:=Kq underlying26 (by decide +kernel) hb
 simpa using this
def reach47:reachBytes<=140737488355328:=by decide
def QC{H:Type}{enc:TypeId × Value->H}{r:Reach}{i:Nat}{c:Bool}{d:DataW H}{p:List MemPlace}(A:Value.okWide prog W r i 28 v)(h:DataW.Trod enc prog W 0 (λ_=>true) c 28 v d p)
  (j:∀m ∈ d.weights prog 28,m<=reachBytes):∃(na nb nc:Nat) (x y z:Nat->Int) (k l o:Value),v=.agg #[k,l,o]/\(Si none W k na x/\na<=140737488355328)/\(Si none W l nb y/\nb<=140737488355328)/\Si none W o nc z/\nc<=140737488355328:=by
 obtain⟨B,v1,C,D,E,F,n,rfl,rfl,rfl,t0,t1,t2⟩:=open_agg3 underlying28 (by kernel_rfl) (by kernel_rfl) A h;obtain⟨na,x,s0,i⟩:=IC t0;obtain⟨nb,y,s1,s⟩:=IC t1;obtain⟨nc,z,s2,u⟩:=IC t2;refine⟨na,nb,nc,x,y,z,B,v1,C,rfl,⟨s0,Nat.le_trans (i _ λm g=>j m ?_) reach47⟩,⟨s1,Nat.le_trans (s _ λm g=>j m ?_) reach47⟩,s2,Nat.le_trans (u _ λm g=>j m ?_) reach47⟩
 ·simp only[DataW.weights,underlying28,DataW.weightsEach,List.map_cons,List.mem_append,List.map_nil];exact .inl g
 ·simp only[DataW.weights,underlying28,DataW.weightsEach,List.map_cons,List.mem_append,List.map_nil];exact .inr<|.inl g
 simp only[DataW.weights,underlying28,DataW.weightsEach,List.map_cons,List.mem_append,List.map_nil];exact .inr<|.inr (.inl g)
end
end Go.Proofs.YtpldocnhbdlgfaaGreatDoor
