/- Parts. -/
import Derived.Test.YteappjogmnogcaaGreatDoorZ15
namespace Go.Proofs.YteappjogmnogcaaGreatDoor
set_option maxRecDepth 100000
set_option linter.all false
set_option maxHeartbeats 16000000
open Go Tryz
section
variable{a b s:ByteArray}{j:Int}{D:MD}{e n p:Nat}
abbrev StarO:=Option<|Nat->Nat->ByteArray
def rstP(k:Int)(S:Nat->Nat->ByteArray)(v:Nat->ByteArray)(q:Nat):Nat->WS->WS
 |0,s=>s
 |p+1,s=>if v q=⟨#[]⟩\/S q p=Af k then rstP k S v q p s
  else (updS (rstP k S v q p s).1 p (AN k ((rstP k S v q p s).1 p) (AQ k (v q) (S q p) (rstP k S v q p s).2).1 (AQ k (v q) (S q p) (rstP k S v q p s).2).2).1,(AN k ((rstP k S v q p s).1 p) (AQ k (v q) (S q p) (rstP k S v q p s).2).1 (AQ k (v q) (S q p) (rstP k S v q p s).2).2).2)
def rstQ(k:Int)(S:Nat->Nat->ByteArray)(v:Nat->ByteArray)(n:Nat):Nat->WS->WS
 |0,s=>s
 |q+1,s=>rstP k S v q n (rstQ k S v n q s)
def Cy(k:Int)(n:Nat)(st:StarO)(v:Nat->ByteArray)(e:Nat):WS:=match st with
 |none=>(v,e)
 |some S=>if e≠0 then (v,e) else rstQ k S v n n (Ax,e)
def DY(D:MD)(st:StarO)(na:Nat)(x:Nat->Int)(nb:Nat)(y:Nat->Int)(i j:Nat)(s:RS):RS :=
 match s.1 false j with
 |none=>s
 |some v=>cell3 D na x nb y i j (Cy D.kind D.n st v s.2).1 (cell2 D na x i j (Cy D.kind D.n st v s.2).1 (cell1 D nb y j (Cy D.kind D.n st v s.2).1 (updV s.1 false j (Cy D.kind D.n st v s.2).1,(Cy D.kind D.n st v s.2).2)))
def colG(D:MD)(st:StarO)(na:Nat)(x:Nat->Int)(nb:Nat)(y:Nat->Int)(i:Nat):Nat->RS->RS
 |0,s=>s
 |j+1,s=>DY D st na x nb y i j (colG D st na x nb y i j s)
def outG(D:MD)(st:StarO)(na:Nat)(x:Nat->Int)(nb:Nat)(y:Nat->Int):Nat->Nat->(Nat->Option VV)->Nat->ByteArray × Nat
 |0,_,_,e=>finC D Ax e
 |k+1,i,row,e =>
  if e≠0 then finC D Ax e
  else if i=na/\((colG D st na x nb y i (nb+1) (twoR row (λ_=>none),e)).1 false nb).isSome=true then
   finC D (((colG D st na x nb y i (nb+1) (twoR row (λ_=>none),e)).1 false nb).getD Ax) (colG D st na x nb y i (nb+1) (twoR row (λ_=>none),e)).2
  else outG D st na x nb y k (i+1) ((colG D st na x nb y i (nb+1) (twoR row (λ_=>none),e)).1 true) (colG D st na x nb y i (nb+1) (twoR row (λ_=>none),e)).2
def wgtG(D:MD)(st:StarO)(e0:Nat)(na:Nat)(x:Nat->Int)(nb:Nat)(y:Nat->Int):ByteArray × Nat:=outG D st na x nb y (na+1) 0 (λj=>if j=0 then some (Fx D) else none) e0
def Sv(k:KK)(s:ByteArray)(x:RK k):Prop:=s=vtxt x.1/\fitV x.1
def Pv(k:KK)(s:ByteArray)(x:RK k):Prop:=(s=⟨#[]⟩/\x=CSR.zero)\/Sv k s x
section
variable{k:KK}
theorem Sv.prs{x:RK k}(h:Sv k s x):vprs k.1 s=some x.1:=by rw[h.1];exact Rs h.2 x.2
def Sv.ne{x:RK k}(h:Sv k s x):s≠⟨#[]⟩:=λe=>by
 have c:=h.prs;rw[e]at c;have d:=(Gs (Dz.1 c).1).1;have i:(vtxt x.1).size=0:=by rw[<-d];rfl
 have g:=Ik h.2;rw[<-d]at g;exact absurd g (by rw[show rdV ⟨#[]⟩=none by decide +kernel];simp)
theorem Sv.inj{s:ByteArray}{x y:RK k}(h:Sv k s x)(d:Sv k s y):x=y:=by
 have c:=h.prs;rw[d.prs]at c;exact RK.ext (Option.some.inj c).symm
def Sv.text{t:ByteArray}{x:RK k}(h:Sv k s x)(c:Sv k t x):s=t:=by rw[h.1,c.1]
theorem Sv.zero:Sv k (Af k.1) (CSR.zero:RK k):=(Is.zero k 0).2 rfl
theorem Sv.one:Sv k (oneF k.1) (CSR.one:RK k):=(Is.one k 0).2 rfl
def Sv.eq_zero{x:RK k}(h:Sv k s x):s=Af k.1↔x=CSR.zero:=by
 constructor
 ·intro e;rw[e]at h;exact h.inj Sv.zero
 intro e;rw[e]at h;exact h.text Sv.zero
theorem Sv.val{x:RK k}(h:Sv k s x):wval k s=x:=by
 have d:=h.prs;unfold wval
 split
 ·rename_i v c;rw[d]at c;cases c;rfl
 rename_i c;rw[d]at c;cases c
def z1i(h:Ah k.1 s=true):Sv k s (wval k s):=(RD h).2 rfl
def FD(c:k.1=j)(h:Aw j s=true):Sv k s (wval k s):=by subst c;exact z1i<|z0y h
def NX{v:V}(h:(limV v).2=0):limV v=(vtxt v,0)/\fitV v:=by
 rcases Hr v with⟨d,c⟩|⟨_,c⟩
 ·exact⟨c,d⟩
 rw[c]at h;cases h
def Ie{x y:RK k}(g:Sv k a x)(hb:Sv k b y)(h:(Am k.1 a b).2=0):Sv k (Am k.1 a b).1 (x+y):=by
 have i:Am k.1 a b=limV (x+y).1:=by unfold Am;rw[g.prs,hb.prs];rfl
 rw[i]at h ⊢;obtain⟨c,d⟩:=NX h;rw[c];exact⟨rfl,d⟩
def ZK{x y:RK k}(g:Sv k a x)(hb:Sv k b y)(h:(Al k.1 a b).2=0):Sv k (Al k.1 a b).1 (x*y):=by
 have i:Al k.1 a b=limV (x*y).1:=by unfold Al;rw[g.prs,hb.prs];rfl
 rw[i]at h ⊢;obtain⟨c,d⟩:=NX h;rw[c];exact⟨rfl,d⟩
def Xp(m:k.1=j){x y:RK k}(i:Pv k a x)(hb:Sv k b y)(h:(AN j a b e).2=0):e=0/\Sv k (AN j a b e).1 (x+y):=by
 subst m;unfold AN at h ⊢;by_cases d:a=⟨#[]⟩\/e≠0
 ·rw[ifp d]at h ⊢;have l:e=0:=h;have g:a=⟨#[]⟩:=d.resolve_right<|λh=>h l
  rcases i with⟨_,rfl⟩|c
  ·exact⟨l,by rw[CSR.z0];exact hb⟩
  exact absurd g c.ne
 rw[ifn d]at h ⊢;refine⟨by omega,?_⟩
 rcases i with⟨c,_⟩|c
 ·exact absurd (.inl c) d
 exact Ie c hb h
end
def rmOf(k:KK)(D:MD):RM (RK k) :=
 { n:=D.n,start:=D.start.toNat,lead:=wval k D.lead,fin:=λq=>if D.fin q=⟨#[]⟩ then CSR.zero else wval k (D.fin q),na:=D.na,ain:=D.ain,aout:=D.aout,aw:=λq d=>wval k (D.aw q d),ato:=λq d=>(D.ato q d).toNat }
def VM.inn(h:VM D)(k:KK):Inn (rmOf k D):=λq d i g=>by
 have c:=h.arc q d i g;have:=c.t0;have:=c.t1;show (D.ato q d).toNat<D.n;omega
def VM.stn(h:VM D)(k:KK):(rmOf k D).start<(rmOf k D).n:=by
 have:=h.s0;have:=h.s1;show D.start.toNat<D.n;omega
def VM.kk(h:VM D):∃k:KK,k.1=D.kind:=by
 have c:=h.kind;unfold Ao at c;simp at c;exact⟨⟨D.kind,by omega⟩,rfl⟩
section
variable{D:MD}(hV:VM D){k:KK}(hk:k.1=D.kind)
open CSR
def stq(A:RM (RK k))(i o:Int)(f:Nat->RK k)(q:Nat)(p:Nat):RK k:=sum (λq=>sum (λd=>if A.ain q d=i/\A.aout q d=o/\A.ato q d=p then f q*A.aw q d else zero) (A.na q)) q
include hV hk
omit hV hk
theorem OT(h:(AN j a b e).2=0):e=0:=by
 unfold AN at h;split at h
 ·exact h
 rename_i d;by_cases c:e=0
 ·exact c
 exact absurd (.inr c) d
end
open CSR
def StOk(k:KK)(D:MD)(st:StarO):Prop:=match st with
 |none=>∀q p,q<D.n->p<D.n->sil (rmOf k D) q p=zero
 |some S=>∀q p,q<D.n->p<D.n->Sv k (S q p) (starM (sil (rmOf k D)) D.n q p)
theorem Qr{R:Type}[CSR R]{M:Nat->Nat->R}(h:∀q p,q<n->p<n->M q p=zero){q:Nat}(d:q<n)(c:p<n):starM M n q p=eye q p:=by
 rw[starM_left M c,sum_congr (g:=λ_=>zero) (λr i=>by rw[h q r d i,zm]),sum_zero,a0]
theorem Yv{R:Type}[CSR R]{M:Nat->Nat->R}(h:∀q p,q<n->p<n->M q p=zero)(v:Nat->R)(c:p<n):rst M n v p=v p:=by
 unfold rst;rw[sum_single _ c (λq g d=>by rw[Qr h g c,eye,ifn d,m0]),Qr h c c,eye,ifp rfl,m1]
def Orl(k:KK)(n:Nat)(o:Option VV)(u:Nat->RK k):Prop:=match o with
 |none=>∀p,p<n->u p=zero
 |some v=>∀p,p<n->Pv k (v p) (u p)
theorem Orl.getD{k:KK}{o:Option VV}{u:Nat->RK k}(h:Orl k n o u):∀p,p<n->Pv k ((o.getD Ax) p) (u p):=λp c=>by
 cases o with
 |none=>exact .inl ⟨rfl,h p c⟩
 |some v=>exact h p c
section
variable{D:MD}(hV:VM D){k:KK}(hk:k.1=D.kind)
include hV hk
variable{na:Nat}{x:Nat->Int}{nb:Nat}{y:Nat->Int}{st:StarO}(hst:StOk k D st)
include hst
end
end
section
open Go.RowKit Go.Deep Go.Maps Go.WideMaps
variable{n:Nat}{L:Nat->Nat}
def Sq(k:Int)(n:Nat)(L:Nat->Nat)(X:Nat->Nat->ByteArray):Prop:=∀i,i<n->L i=n/\∀j,j<n->Ah k (X i j)=true
def Sq.mat{k:KK}{X:Nat->Nat->ByteArray}(h:Sq k.1 n L X):MatIs 0 n X (λi j=>wval k (X i j)):=λi j hi c=>RD ((h i hi).2 j c)
def StarE(k0:Int)(n:Nat)(L:Nat->Nat)(X:Nat->Nat->ByteArray)(w:World)(r:Ending)(w':World):Prop :=
 Below w.heap.size w w'/\
 (
  (¬(Ao k0=true/\Sq k0 n L X)/\r=.returned (.tuple #[.slice none 0 0,.int .i64 1]))\/
  (60<n/\Ao k0=true/\Sq k0 n L X/\r=.returned (.tuple #[.slice none 0 0,.int .i64 2]))\/
  (n<=60/\∃(k:KK) (M:Nat->Nat->RK k),k.1=k0/\Sq k0 n L X/\(M=λi j=>wval k (X i j))/\MatIs 0 n X M/\
   ((∃v Y,r=.returned (.tuple #[v,.int .i64 0])/\Mt none w' v n (λ_=>n) Y/\MatIs 0 n Y (CSR.starM M n))\/
   (r=.returned (.tuple #[.slice none 0 0,.int .i64 2])/\¬FitM n M))))
abbrev knT:TypeId:=9
abbrev kiT:TypeId:=3
def JQ:Keyed prog knT:=string_keyed underlying9
def VD(w:World):(zeroValue kiT).run prog w=.ok (.int .i64 0) w:=by kernel_rfl
def KnInv(k:Int)(D:DataW Unit):Prop:=IsMap D/\∀s:ByteArray,D.atKey (.string s.data.toList) (.lit (.int .i64 0))=.lit (.int .i64 0)\/Ah k s=true
theorem KnInv.start(k:Int):KnInv k (.map []):=⟨isMap_empty,λ_=>.inl rfl⟩
theorem KnInv.put{k:Int}{D:DataW Unit}(h:KnInv k D){x:ByteArray}(i:Ah k x=true)(d:DataW Unit):KnInv k (D.put (.string x.data.toList) d):=⟨h.1.put _ _,λs=>by
 by_cases e:s=x
 ·subst e;exact .inr i
 rcases h.2 s with c|c
 ·left
  rw[atKey_put_other (λg=>e (by
   have:s.data.toList=x.data.toList:=by simpa using g
   exact ByteArray.ext (Array.toList_inj.1 this)))]
  exact c
 exact .inr c⟩
def KnInv.ok{k:Int}{D:DataW Unit}(h:KnInv k D){x:ByteArray}{c:Int}(g:D.atKey (.string x.data.toList) (.lit (.int .i64 0))=.lit (.int .i64 c))(i:c≠0):Ah k x=true:=by
 rcases h.2 x with d|d
 ·rw[g]at d;simp at d;exact absurd d i
 exact d
def Zb{k0:Int}{X:Nat->Nat->ByteArray}{v:Value}(w:World)(hn:n<=100)(hA:Mt none w v n L X)(hz:∀i j,(X i j).size<=maxLen)(ht:Tab w):
  Calls prog 124 #[.int .i64 k0,v] w (StarE k0 n L X w):=by
 obtain⟨a,e3,b,f3,A,C,BB,O,rfl,ha,hc,hm,hb,a3⟩:=hA.open;unfold maxLen at hm;replace hz:=qh hz;replace ht:=qh ht;have d1:=qh hA;clear hA;replace ha:=qh ha;replace hb:=qh hb;replace a3:=qh a3;have ho:=Iu k0 w;cases hk:Ao k0
 ·have h1:oneF k0=⟨#[]⟩:=by unfold oneF;rw[hk];rfl
  rw[h1]at ho;replace ho:=qh ho
  go_enter func124,ntmps124
  go_wp2_with fail
  refine ho.o.mono ?_;rintro r w1⟨rfl,a7⟩;go_wp2;go_ret2;exact⟨a7,.inl ⟨λh=>by rw[hk]at h;exact absurd h.1 (by simp),rfl⟩⟩
 have f0:k0=1\/k0=2\/k0=3:=by unfold Ao at hk;simp at hk;omega
 obtain⟨k,rfl⟩:∃k:KK,k.1=k0:=⟨⟨k0,f0⟩,rfl⟩;replace ho:=qh ho;have h1:((oneF k.1).toList==[])=false:=by
  unfold oneF;rw[hk]
  rcases k.2 with e|e|e<;>rw[e]<;>decide +kernel
 have f9:=@run_makeMap prog;replace hk:=qh hk
 go_enter func124,ntmps124
 go_wp2_with fail
 refine ho.o.mono ?_;rintro r w1⟨rfl,a7⟩;have b3:=qh a7;clear a7
 go_wp2_with fail
 obtain⟨mb,a9⟩:=exq<|w1.heap.size;rw[<-a9];have a1:(w1.alloc (.map #[] 0)).ownsMap (H:=Unit) prog knT (plainElem prog kiT) mb 0 (.map []):=by rw[a9];exact World.ownsMap_made _ _ _ _
 have b0:Below w.heap.size w (w1.alloc (.map #[] 0)):=b3.o.alloc b3.o.size _;have b2:w.heap.size<=mb:=by rw[a9];exact b3.o.size
 have d0:=qh a1;clear a1;have c7:=qh b0;clear b0;clear a9
 go_loopw [18] (λi wr=>∃(q m:Nat) (D:DataW Unit),q<=n/\m<=q*100/\i=.int .i64 (q:Int)/\(∀l,l<q->L l=n/\∀j,j<n->Ah k.1 (X l j)=true)/\
  wr.ownsMap prog knT (plainElem prog kiT) mb m D/\KnInv k.1 D/\Below w.heap.size w wr) (λi _=>n-(intOf i).toNat)
 case atStart=>exact⟨0,0,_,Nat.zero_le _,nlr,rfl,λl hl=>by omega,d0.o,KnInv.start _,c7.o⟩
 obtain⟨q,m,D,hq,b8,rfl,s,I,E,U⟩:=hrel;clear d0 c7;have c9:=qh s;clear s;have K:=qh I;clear I;have J:=qh E;clear E;have g:=qh U;clear U;replace b8:=qh b8;by_cases b7:q<n
 ·have g0:(q:Int)<(n:Int):=by omega
  have f5:(0:Int)<=(q:Int):=by omega
  obtain rfl:=ha.o (by omega);have e6:=(hb.o (by omega)).1;obtain⟨k1,k2,k3,k4,k5,_,k7⟩:=a3.o q b7;have c0:=(g.o.cell (p:=(Ad b (f3+q))) e6).trans k1;clear k1;unfold maxLen at k3;by_cases hL:L q=n
  ·have d5:((L q:Int)==(n:Int))=true:=by simp;omega
   rw[hL]at c0 k4 k7 d5;obtain d8:=k4 (by omega);have e7:=(k5 (by omega)).1;rw[d8]at c0;replace k7:=qh k7;clear k4 k5 d8
   go_wp2_with fail
   go_loopw [29] (λi wr=>∃(d m':Nat) (D':DataW Unit),d<=n/\m'<=q*100+d/\i=.int .i64 (d:Int)/\(∀j,j<d->Ah k.1 (X q j)=true)/\
    wr.ownsMap prog knT (plainElem prog kiT) mb m' D'/\KnInv k.1 D'/\Below w.heap.size w wr) (λi _=>n-(intOf i).toNat)
   case atStart=>exact⟨0,m,D,Nat.zero_le _,by have:=b8.o;omega,rfl,λj hj=>by omega,K.o,J.o,g.o⟩
   obtain⟨d,m',D',hd,R,rfl,s,I,E,U⟩:=hrel;clear K J g c0;have b4:=qh s;clear s;have K:=qh I;clear I;have J:=qh E;clear E;have g:=qh U;clear U;replace R:=qh R;by_cases b1:d<n
   ·have f8:(d:Int)<(n:Int):=by omega
    have f4:(0:Int)<=(d:Int):=by omega
    obtain⟨x,hx⟩:=exq<|X q d;have c1:=(g.o.cell (p:=(Ad (BB q) (O q+d))) e7).trans (k7.o d b1);rw[<-hx]at c1;have a6:=hz.o q d;rw[<-hx]at a6;have G:keyOf prog knT (.string x)=some (.string x.data.toList):=keyOf_string_mk underlying9 a6;obtain⟨c,a4,b6,_⟩:=K.o.lookup_int JQ underlying166 underlying3 (VD _) G;replace b6:=qh b6;replace G:=qh G;replace hx:=qh hx;have hv:=YL k.1 x wr (by unfold maxLen at a6;exact a6) (ht.o.below g.o nlr);clear a6;have Q:m' < maxLen:=by have:=R.o;unfold maxLen;omega
    replace Q:=qh Q;by_cases hc:c=0
    ·subst hc;cases o:Ah k.1 x
     ·rw[o]at hv;have HV:=qh hv;clear hv
      go_wp2_with fail
      refine HV.o.mono ?_;rintro r w2⟨rfl,u⟩;clear a4 c1;go_wp2;go_ret2;exact⟨g.o.trans (u.mono g.o.size),.inl ⟨λh=>by have:=(h.2 q b7).2 d b1;rw[<-hx.o,o]at this;exact absurd this (by simp),rfl⟩⟩
     rw[o]at hv;have HV:=qh hv;clear hv
     go_wp2_with fail
     refine HV.o.mono ?_;rintro r w2⟨rfl,u⟩;clear a4 c1;have a2:=K.o.kept (Ab u none) (by simp);have W:=g.o.trans<|u.mono g.o.size;clear u
     go_wp2_with (first
      |(at_mapUpdate;refine wpList_mapUpdate_own _ rfl _ _ _ 166 rfl knT kiT JQ underlying166 _ mb m' _ rfl a2 Q.o _ _ _ rfl rfl G.o _ [] (plainElem_int underlying3 (by decide)) ?_)
      |go_in)
     intro w3 N B;have Z:=W.grown B W.size (λj hj=>by cases hj;exact b2);clear a2 W B;go_wp2;go_roundw
     case rel =>
      refine⟨d+1,m'+1,_,by omega,by have:=R.o;omega,by go_num,λj hj=>?_,N,J.o.put o _,Z⟩
      rcases Nat.lt_succ_iff_lt_or_eq.1 hj with S|S
      ·exact b4.o j S
      subst S;rw[<-hx.o];exact o
     simp[intOf];omega
    have f7:(c==0)=false:=by simp;exact hc
    have o:Ah k.1 x=true:=J.o.ok b6.o hc;clear hv
    go_wp2_with (first
      |(at_mapUpdate;refine wpList_mapUpdate_own _ rfl _ _ _ 166 rfl knT kiT JQ underlying166 _ mb m' _ rfl K.o Q.o _ _ _ rfl rfl G.o _ [] (plainElem_int underlying3 (by decide)) ?_)
      |go_in)
    intro w3 N B;have Z:=g.o.grown B g.o.size (λj hj=>by cases hj;exact b2);clear B a4 c1;go_wp2;go_roundw
    case rel =>
     refine⟨d+1,m'+1,_,by omega,by have:=R.o;omega,by go_num,λj hj=>?_,N,J.o.put o _,Z⟩
     rcases Nat.lt_succ_iff_lt_or_eq.1 hj with S|S
     ·exact b4.o j S
     subst S;rw[<-hx.o];exact o
    simp[intOf];omega
   have e8:d=n:=by omega
   subst e8;have e9:¬((d:Int)<(d:Int)):=by omega
   go_wp2;go_roundw
   case rel =>
    refine⟨q+1,m',D',by omega,by have:=R.o;omega,by go_num,λl hl=>?_,K.o,J.o,g.o⟩
    rcases Nat.lt_succ_iff_lt_or_eq.1 hl with S|S
    ·exact c9.o l S
    subst S;exact⟨hL,b4.o⟩
   simp[intOf];omega
  have d5:((L q:Int)==(n:Int))=false:=by simp;omega
  go_wp2;go_ret2;exact⟨g.o,.inl ⟨λh=>hL (h.2 q b7).1,rfl⟩⟩
 have f2:q=n:=by omega
 subst f2;have e9:¬((q:Int)<(q:Int)):=by omega
 have P:Sq k.1 q L X:=c9.o;replace P:=qh P;by_cases e4:60<q
 ·have d3:(60:Int)<(q:Int):=by omega
  go_wp2;go_ret2;exact⟨g.o,.inr (.inl ⟨e4,hk.o,P.o,rfl⟩)⟩
 have d3:decide ((60:Int)<(q:Int))=false:=by simp;omega
 obtain⟨M,T⟩:∃M:Nat->Nat->RK k,M=λi j=>wval k (X i j):=⟨_,rfl⟩;have hM:MatIs 0 q X M:=by rw[T];exact P.o.mat
 replace T:=qh T;obtain⟨sb,a5⟩:=exq<|wr.heap.size;have b9:SumB (wr.alloc (.cells #[.int .i64 k.1,.int .i64 0] 149)) sb k.1 0:=by rw[a5];exact han wr _
 have a8:Below w.heap.size w (wr.alloc (.cells #[.int .i64 k.1,.int .i64 0] 149)):=g.o.alloc g.o.size _;have e0:w.heap.size<=sb:=by rw[a5];exact g.o.size
 have d6:Mt (some sb) (wr.alloc (.cells #[.int .i64 k.1,.int .i64 0] 149)) (.slice a q e3) q (λ_=>q) X :=
  (((d1.o.congr (L':=λ_=>q) (λi hi=>(P.o i hi).1) (λ_ _ _ _=>rfl)).far (k:=sb) (by rw[a5];exact g.o.size)).kept (Ab g.o _)).kept (World.grownBy_alloc _ _ _)
 have b5:TabB w.heap.size (wr.alloc (.cells #[.int .i64 k.1,.int .i64 0] 149)):=(TabB.of ht.o).kept (z:=none) (Ab a8 none) (by simp) nlr;replace hM:=qh hM;replace b9:=qh b9;replace a8:=qh a8;have d2:=qh d6;clear d6 d1;replace b5:=qh b5
 go_wp2_with fail
 rw[<-a5];refine(Xv (F:=FitM q M) (by omega) d2.o hM.o b9.o ⟨.inl rfl,λ_=>rfl⟩ (λf=>f) b5.o e0).mono ?_;rintro r w2⟨v2,e2,Y,rfl,hY,e5,d4,_,d9,d7⟩;have e1:=d9.c1;have u:Below w.heap.size w w2:=a8.o.grown d7 (by simp;have:=g.o.size;omega) (λj hj=>by cases hj;exact e0);have c8:=qh u;clear u;clear d7 d9 a5
 rcases d4.1 with rfl|rfl
 ·go_wp2;go_ret2;exact⟨c8.o,.inr (.inr ⟨by omega,k,M,rfl,P.o,T.o,hM.o,.inl ⟨_,Y,rfl,hY.any,e5⟩⟩)⟩
 have f1:¬FitM q M:=λf=>by have:=d4.2 f;omega
 go_wp2_with fail
 go_quiet (fail)
 go_wp2;go_ret2;exact⟨below_drewN c8.o nq,.inr (.inr ⟨by omega,k,M,rfl,P.o,T.o,hM.o,.inr ⟨rfl,f1⟩⟩)⟩
end
section
open Go.RowKit Go.Deep
def TestE(p:Prop)(w:World)(r:Ending)(w':World):Prop:=∃b:Bool,r=.returned (.bool b)/\(b=true↔p)/\Below w.heap.size w w'
def VW{k0:Int}{n:Nat}{L:Nat->Nat}{X:Nat->Nat->ByteArray}{v:Value}(w:World)(hA:Mt none w v n L X)(hz:∀i j,(X i j).size<=maxLen)(P:Prop)(G:P↔(Ao k0=true/\Sq k0 n L X)):
  Calls prog 136 #[.int .i64 k0,v] w (TestE P w):=by
 replace G:=qh G;obtain⟨a,a7,b,S,A,C,BB,O,rfl,ha,hc,hm,hb,s⟩:=hA.open;unfold maxLen at hm;clear hA;replace hz:=qh hz;replace ha:=qh ha;replace hb:=qh hb;replace s:=qh s;have m:=Gw k0 w;cases T:Ao k0
 ·rw[T]at m;have W:=qh m;clear m
  go_enter func136,ntmps136
  go_wp2_with fail
  refine W.o.mono ?_;rintro r w1⟨rfl,rfl⟩;go_wp2;go_ret;exact⟨false,rfl,⟨(λh=>by cases h),λh=>absurd (G.o.1 h).1 (by rw[T];simp)⟩,blr⟩
 rw[T]at m;have W:=qh m;clear m
 go_enter func136,ntmps136
 go_wp2_with fail
 refine W.o.mono ?_;rintro r w1⟨rfl,rfl⟩
 go_wp2_with fail
 go_loopw [5] (λi wr=>∃q:Nat,q<=n/\i=.int .i64 (q:Int)/\(∀l,l<q->L l=n/\∀j,j<n->Ah k0 (X l j)=true)/\Below w.heap.size w wr) (λi _=>n-(intOf i).toNat)
 case atStart=>exact⟨0,Nat.zero_le _,rfl,λj hj=>by omega,blr⟩
 obtain⟨q,hq,rfl,z,o⟩:=hrel;replace z:=qh z;have c:=qh o;clear o;by_cases F:q<n
 ·have a9:(q:Int)<(n:Int):=by omega
  have a6:(0:Int)<=(q:Int):=by omega
  obtain rfl:=ha.o (by omega);have N:=(hb.o (by omega)).1;obtain⟨J,k2,k3,k4,k5,_,U⟩:=s.o q F;have c0:=(c.o.cell (p:=(Ad b (S+q))) N).trans J;unfold maxLen at k3;by_cases Z:L q=n
  ·have K:((L q:Int)==(n:Int))=true:=by simp;omega
   rw[Z]at c0 k4 k5 U J K;obtain R:=k4 (by omega);have a1:=(k5 (by omega)).1;rw[R]at c0 J;replace U:=qh U;clear k4 k5 R;replace J:=qh J
   go_wp2_with fail
   go_loopw [6] (λi wr=>∃d:Nat,d<=n/\i=.int .i64 (d:Int)/\(∀j,j<d->Ah k0 (X q j)=true)/\Below w.heap.size w wr) (λi _=>n-(intOf i).toNat)
   case atStart=>exact⟨0,Nat.zero_le _,rfl,λj hj=>by omega,c.o⟩
   obtain⟨d,hd,rfl,g,o⟩:=hrel;clear c c0;replace g:=qh g;have c:=qh o;clear o;by_cases D:d<n
   ·have a8:(d:Int)<(n:Int):=by omega
    have a5:(0:Int)<=(d:Int):=by omega
    obtain⟨x,I⟩:=exq<|X q d;have c0:=(c.o.cell (p:=(Ad b (S+q))) N).trans J.o;have c1:=(c.o.cell (p:=(Ad (BB q) (O q+d))) a1).trans (U.o d D);rw[<-I]at c1;have B:=hz.o q d;rw[<-I]at B;have H:=CN k0 x wr (by unfold maxLen at B;exact B);clear B;replace I:=qh I;cases k:Ah k0 x
    ·rw[k]at H;have Y:=qh H;clear H
     go_wp2_with fail
     refine Y.o.mono ?_;rintro r w2⟨rfl,u⟩;clear c0 c1;go_wp2;go_ret;exact⟨false,rfl,⟨(λh=>by cases h),λh=>by have:=((G.o.1 h).2 q F).2 d D;rw[<-I.o,k]at this;exact absurd this (by simp)⟩,c.o.trans (u.mono c.o.size)⟩
    rw[k]at H;have Y:=qh H;clear H
    go_wp2_with fail
    refine Y.o.mono ?_;rintro r w2⟨rfl,u⟩;clear c0 c1;have Q:=c.o.trans<|u.mono c.o.size;clear u;go_wp2;go_roundw
    case rel =>
     refine⟨d+1,by omega,by go_num,λj hj=>?_,Q⟩
     rcases Nat.lt_succ_iff_lt_or_eq.1 hj with E|E
     ·exact g.o j E
     subst E;rw[<-I.o];exact k
    simp[intOf];omega
   have a2:d=n:=by omega
   subst a2;have a3:¬((d:Int)<(d:Int)):=by omega
   go_wp2;go_roundw
   case rel =>
    refine⟨q+1,by omega,by go_num,λl hl=>?_,c.o⟩
    rcases Nat.lt_succ_iff_lt_or_eq.1 hl with E|E
    ·exact z.o l E
    subst E;exact⟨Z,g.o⟩
   simp[intOf];omega
  have K:((L q:Int)==(n:Int))=false:=by simp;omega
  go_wp2;go_ret;exact⟨false,rfl,⟨(λh=>by cases h),λh=>absurd ((G.o.1 h).2 q F).1 Z⟩,c.o⟩
 have a4:q=n:=by omega
 subst a4;have a3:¬((q:Int)<(q:Int)):=by omega
 go_wp2;go_ret;exact⟨true,rfl,⟨λ_=>G.o.2 ⟨T,z.o⟩,λ_=>rfl⟩,c.o⟩
variable{e e' n:Nat}{w:World}{D:MD}{st sv:Value}
def Scl.same{m:World}{k:Nat}{g:Value}(d:Scl w k D sv st e)(c:Scl m k D sv g e'){i:Nat}{x:Value}(h:w.cell? (Ad k i)=some x)(l:∀j,x≠.int .i64 j)(o:st=g\/x≠st):m.cell? (Ad k i)=some x:=by
 unfold Scl at d c
 match i,h with
 |0,h=>simp[World.cell?,d]at h;exact absurd h.symm (l _)
 |1,h=>simp[World.cell?,d]at h;exact absurd h.symm (l _)
 |2,h=>simp[World.cell?,d]at h;simp[World.cell?,c,h]
 |3,h=>simp[World.cell?,d]at h;simp[World.cell?,c,h]
 |4,h =>
  simp[World.cell?,d]at h
  rcases o with e|e
  ·subst e;simp[World.cell?,c,h]
  exact absurd h.symm e
 |5,h=>simp[World.cell?,d]at h;exact absurd h.symm (l _)
 |i+6,h=>simp[World.cell?,d]at h
def Mt.later{C:World}{B:Nat}{A v:Value}{L:Nat->Nat}{X:Nat->Nat->ByteArray}(h:Mt none w v n L X)(P:Scl w B D sv st e)(F:Scl C B D sv A e')(E:w.grownBy C (some B))(O:st=A\/st=.slice none 0 0)(J:∀i,i<n->0<L i):Mt none C v n L X:=by
 have H:∀b o x,w.cell? (Ad b o)=some x->(∀j,x≠.int .i64 j)->x≠.slice none 0 0->C.cell? (Ad b o)=some x:=λb o x k l m=>by
  by_cases e:b=B
  ·subst e;exact P.same F k l (O.imp (λe=>e) (λe=>by rw[e];exact m))
  exact E.cell k (by simpa using e)
 obtain⟨R,K,s⟩:=h;have g:∀i,i<n->∃b d c,R i=.slice (some (Ad b d)) (L i) c/\b<w.heap.size/\L i<=c/\c<=maxLen/\∀j,j<L i->w.cell? (Ad b (d+j))=some (.string (X i j)):=λi hi=>by
  rcases s i hi with⟨S,_⟩|⟨b,d,c,u,k,l,m,p⟩
  ·have:=J i hi;omega
  exact⟨b,d,c,u,k.1,l,m,p⟩
 refine⟨R,?_,λi hi=>?_⟩
 ·rcases K with h|⟨b,d,c,u,k,l,m,p⟩
  ·exact .inl h
  refine .inr ⟨b,d,c,u,⟨Nat.lt_of_lt_of_le k.1 E.size,by simp⟩,l,m,λi hi=>?_⟩;obtain⟨Q,I,G,z,_⟩:=g i hi;refine H _ _ _ (p i hi) (λj=>by rw[z];simp) (by rw[z];simp)
 obtain⟨b,d,c,u,k,l,m,p⟩:=g i hi;exact .inr ⟨b,d,c,u,⟨Nat.lt_of_lt_of_le k E.size,by simp⟩,l,m,λj N=>H _ _ _ (p j N) (λj=>by simp) (by simp)⟩
def StV(w:World)(stv:Value)(n:Nat)(st:StarO):Prop:=match st with
 |none=>stv=.slice none 0 0
 |some S=>Mt none w stv n (λ_=>n) S/\∀q p,q<n->p<n->smS (S q p)
theorem StV.later{w m:World}{g:Nat}{D:MD}{sv c:Value}{e e' n:Nat}{st:StarO}(h:StV w c n st)(B:Scl w g D sv c e)(k:Scl m g D sv c e')(p:w.grownBy m (some g)):StV m c n st:=by
 cases st with
 |none=>exact h
 |some S =>
  by_cases A:n=0
  ·subst A;obtain⟨⟨R,z,_⟩,o⟩:=h
   rcases z with j|⟨b,l,d,C,s,u,j,_⟩
   ·exact⟨⟨R,.inl j,λi hi=>by omega⟩,o⟩
   exact⟨⟨R,.inr ⟨b,l,d,C,⟨Nat.lt_of_lt_of_le s.1 p.size,by simp⟩,u,j,λi hi=>by omega⟩,λi hi=>by omega⟩,o⟩
  exact⟨h.1.later B k p (.inl rfl) (λi _=>by omega),h.2⟩
theorem KV{k:Int}{S:Nat->Nat->ByteArray}{v:Nat->ByteArray}{q:Nat}(hv:smS (v q)):∀(p:Nat) {s:WS},(∀j,smS (s.1 j))->∀j,smS ((rstP k S v q p s).1 j)
 |0,_,h=>h
 |p+1,s,h=>λj=>by
  have ih:=KV (S:=S) (k:=k) hv p h;unfold rstP;split
  ·exact ih j
  show smS (updS _ p _ j);unfold updS;split
  ·exact Ib (FB hv)
  exact ih j
theorem KW{k:Int}{S:Nat->Nat->ByteArray}{v:Nat->ByteArray}{n:Nat}(hv:∀q,smS (v q)):∀(q:Nat) {s:WS},(∀j,smS (s.1 j))->∀j,smS ((rstQ k S v n q s).1 j)
 |0,_,h=>h
 |q+1,s,h=>KV (hv q) n (KW hv q h)
def XV{k:Int}{st:StarO}{v:Nat->ByteArray}(c:∀q,smS (v q)):∀j,smS ((Cy k n st v e).1 j):=by
 cases st with
 |none=>exact c
 |some S =>
  show ∀j,smS ((if e≠0 then (v,e) else rstQ k S v n n (Ax,e)).1 j)
  split
  ·exact c
  exact KW c n Gc
def RstE(cb rb:Nat)(D:MD)(sv stv:Value)(st:StarO)(v:Nat->ByteArray)(e:Nat)(w:World)(r:Ending)(w':World):Prop :=
 ∃r',r=.returned (.slice (some (Ad r' 0)) D.n D.n)/\w'.rowIs r' 9 D.n (λq=>.string ((Cy D.kind D.n st v e).1 q))/\Scl w' cb D sv stv (Cy D.kind D.n st v e).2/\(r'=rb\/w.heap.size<=r')/\Fr (λq=>q=cb) w w'
end
end Go.Proofs.YteappjogmnogcaaGreatDoor
