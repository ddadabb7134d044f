/- Parts. -/
import Derived.Test.YtpldocnhbdlgfaaGreatDoorPb24
import Derived.Test.YtpldocnhbdlgfaaGreatDoorPb21
import Derived.Test.YtpldocnhbdlgfaaGreatDoorPb25
namespace Go.Proofs.YtpldocnhbdlgfaaGreatDoor
set_option maxRecDepth 100000
set_option linter.all false
set_option maxHeartbeats 16000000
open Go Tryz
section
open Go CSR
variable{d n p q:Nat}{f:Bool}
def alF(A:MD)(p:Nat):Bool:=(List.range (A.na p)).any λk=>A.aout p k==0
def LF(A:MD)(p:Nat):alF A p=true\/∀k,k<A.na p->A.aout p k≠0:=by
 cases h:alF A p
 ·right;intro k c e
  unfold alF at h;rw[List.any_eq_false]at h;exact h k (List.mem_range.2 c) (by simp[e])
 exact .inl rfl
def acP(A B:MD)(al:Nat->Bool):Nat->Nat
 |0=>0
 |n+1=>acP A B al n+match (itP A B al n).1[n]? with|none=>0|some (p,q,f)=>(arL A B (al p) p q f).length
def bnd(A B:MD):Nat:=Ah A A.n+Ah A A.n*Ah B B.n+Ah B B.n
structure Cvi(A B:MD)(al:Nat->Bool)(n:Nat)(S:List Plc × MD)(ac fl:Nat):Prop where
 nd:S.1.Nodup
 len:S.2.n=S.1.length
 ok:∀x ∈ S.1,x.1<A.n/\x.2.1<B.n
 le:S.1.length<=3001
 na:∀i,S.2.na i<=ac
 ac1:ac<=30001
 acn:ac<=n*bnd A B
 nn:n<=S.1.length
 fl2:fl=0\/fl=2
 good:fl=0->S.1.length<=3000/\ac<=30000/\S=itP A B al n/\ac=acP A B al n/\(Ae A.kind A.lead B.lead).2=0/\∀i p q f,i<n->S.1[i]?=some (p,q,f)->PrOk A B p q
 bad:fl=2->BadW A B\/3000<S.1.length\/30000<ac
def BadC(A B:MD):Prop:=BadW A B\/3000<2*(A.n*B.n)\/30000<2*(A.n*B.n)*bnd A B
section
variable{A B:MD}{al:Nat->Bool}{n:Nat}{S:List Plc × MD}{ac fl:Nat}
def Cvi.badC(h:Cvi A B al n S ac fl)(hf:fl=2):BadC A B:=by
 have d:=Tq h.nd h.ok
 rcases h.bad hf with c|c|c
 ·exact .inl c
 ·exact .inr (.inl (by omega))
 have g:n*bnd A B<=2*(A.n*B.n)*bnd A B:=Nat.mul_le_mul_right _ (Nat.le_trans h.nn d);exact .inr (.inr (by have:=h.acn;omega))
def Cvi.lvi(h:Cvi A B al n S ac 0)(hn:n<S.1.length):Lvi A B n [] S S ac ac 0 :=
 ⟨h.nd,h.len,h.ok,h.le,h.na,h.ac1,nlr,hn,⟨[],by simp⟩,.inl rfl,λ_=>⟨(h.good rfl).1,rfl,rfl⟩,λe=>by cases e⟩
def Cvi.next{s:List Plc × MD}{j:Nat}(h:Cvi A B al n S ac 0)(k:S.1[n]?=some (p,q,f))(c:Lvi A B n (arL A B (al p) p q f) (S.1,finP A B p q n S.2) s ac d j)(L:j=0->PrOk A B p q/\d<=30000):Cvi A B al (n+1) s d j:=by
 obtain⟨J,K⟩:=h.ok _ (List.mem_of_getElem? k);obtain⟨m,o⟩:=c.pre;have o:s.1=S.1++m:=o;have I:n<S.1.length:=by
  rcases Nat.lt_or_ge n S.1.length with l|l
  ·exact l
  rw[List.getElem?_eq_none l]at k;cases k
 refine⟨c.nd,c.len,c.ok,c.le,c.na,c.ac1,?_,by have:=c.n1;omega,c.fl2,λe=>?_,c.bad⟩
 ·have l:=c.acn;have G:=QV J K (al p) f;have H:=h.acn;rw[Nat.succ_mul];obtain⟨b,hb⟩:=exq<|bnd A B;have U:(arL A B (al p) p q f).length<=b:=by rw[hb];exact G
  rw[<-hb]at H ⊢;omega
 obtain⟨R,T,u,D,E,F⟩:=h.good rfl;obtain⟨k1,k2,k3⟩:=c.good e;obtain⟨P,Q⟩:=L e;refine⟨k1,Q,?_,?_,E,λi N O C hi g=>?_⟩
 ·rw[k2];show _=Ct A B al n (itP A B al n);rw[<-u];unfold Ct;rw[k]
 ·show d=acP A B al n+match (itP A B al n).1[n]? with|none=>0|some (p,q,f)=>(arL A B (al p) p q f).length
  rw[<-u,k,k3,D]
 by_cases z:i=n
 ·subst z;rw[o,List.getElem?_append_left I,k]at g;cases g;exact P
 rw[o,List.getElem?_append_left (by omega)]at g;exact F i N O C (by omega) g
end
structure CmpIs(A B:MD)(al:Nat->Bool)(n:Nat)(M:MD):Prop where
 len:(itP A B al n).1.length=n
 eq:M=(itP A B al n).2
 n3:n<=3000
 a3:acP A B al n<=30000
 lead:(Ae A.kind A.lead B.lead).2=0
 pr:∀i p q f,i<n->(itP A B al n).1[i]?=some (p,q,f)->PrOk A B p q
def Cvi.is{A B:MD}{al:Nat->Bool}{S:List Plc × MD}(h:Cvi A B al n S d 0)(hn:n=S.1.length):CmpIs A B al n S.2:=by
 obtain⟨j,k,c,l,g,i⟩:=h.good rfl;exact⟨by rw[<-c];exact hn.symm,by rw[<-c],by omega,by omega,g,by rw[<-c];exact i⟩
section
variable{A B:MD}(hA:VM A)(hB:VM B)(hkk:A.kind=B.kind)(hSA:MSz A)(hSB:MSz B)
include hA hB hkk hSA hSB
def OkAr(A:MD)(r:ArP):Prop:=(0<=r.1/\r.1<=500)/\(0<=r.2.1/\r.2.1<=500)/\Am A.kind r.2.2.1=true/\smS r.2.2.1
theorem QX{al:Bool}(o:p<A.n)(s:q<B.n)(D:PrOk A B p q):∀r ∈ arL A B al p q f,OkAr A r:=by
 obtain⟨k,F⟩:=hA.kk;have u:∀i,i<A.na p->A.aout p i≠0->∀m,m<=B.na q->∀r ∈ mtL A B p q i m,OkAr A r:=λi hi j m=>by
  induction m with
  |zero=>intro _ r c;cases c
  |succ m ih =>
   intro l r c
   rcases List.mem_append.1 c with h|h
   ·exact ih (by omega) r h
   split at h
   ·rename_i E;have e:=List.mem_singleton.1 h;have g:=hA.arc p i o hi;have d:=hB.arc q m s (by omega);rw[e];exact⟨⟨g.i0,g.i1⟩,⟨d.o0,d.o1⟩,IB hA hB F hkk g.wt d.wt (D.2 i m hi (by omega) j E),Gy _ _ _⟩
   cases h
 have z:∀m,m<=A.na p->∀r ∈ lfL A B p q f m,OkAr A r:=λm=>by
  induction m with
  |zero=>intro _ r c;cases c
  |succ m ih =>
   intro l r c
   rcases List.mem_append.1 c with h|h
   ·exact ih (by omega) r h
   split at h
   ·split at h
    ·cases h
    have e:=List.mem_singleton.1 h;have g:=hA.arc p m o (by omega);rw[e];exact⟨⟨g.i0,g.i1⟩,⟨by show (0:Int)<=0;omega,by show (0:Int)<=500;omega⟩,g.wt,hSA.aw p m⟩
   rename_i j;exact u m (by omega) j _ nlr r h
 have C:∀m,m<=B.na q->∀r ∈ rtL B al p q m,OkAr A r:=λm=>by
  induction m with
  |zero=>intro _ r c;cases c
  |succ m ih =>
   intro l r c
   rcases List.mem_append.1 c with h|h
   ·exact ih (by omega) r h
   split at h
   ·have e:=List.mem_singleton.1 h;have d:=hB.arc q m s (by omega);rw[e];exact⟨⟨by show (0:Int)<=0;omega,by show (0:Int)<=500;omega⟩,⟨d.o0,d.o1⟩,by rw[hkk];exact d.wt,hSB.aw q m⟩
   cases h
 intro r c
 rcases List.mem_append.1 c with h|h
 ·exact z _ nlr r h
 exact C _ nlr r h
omit hB hkk hSA hSB in
theorem QN{c:Nat}{S:List Plc × MD}{r:ArP}(h:BOk S.2 S.1.length c)(hl:S.2.n=S.1.length)(hk:S.2.kind=A.kind)(hr:OkAr A r):BOk (addP n S r).2 (addP n S r).1.length (c+1)/\(addP n S r).2.n=(addP n S r).1.length/\(addP n S r).2.kind=A.kind:=by
 have hlen:=FY hl r.2.2.2;have hkn:(numP S r.2.2.2).2.kind=A.kind:=by unfold numP;split<;>exact hk
 have hb:BOk (numP S r.2.2.2).2 (numP S r.2.2.2).1.length c:=by
  unfold numP;split
  ·exact h
  exact(h.state (.inl rfl) (by unfold smS;decide)).mono (by simp) nlr
 have hpos:posP S.1 r.2.2.2<(numP S r.2.2.2).1.length:=by
  unfold numP;split
  ·rename_i hx;exact Ia hx
  rename_i hx;rw[Gg hx];simp
 exact⟨hb.put hr.1 hr.2.1 ⟨by omega,by omega⟩ (by rw[hkn];exact hr.2.2.1) hr.2.2.2,hlen,hkn⟩
omit hB hkk hSA hSB in
theorem LB{n:Nat}:∀(L:List ArP) {c:Nat} {S:List Plc × MD},BOk S.2 S.1.length c->S.2.n=S.1.length->S.2.kind=A.kind->(∀r ∈ L,OkAr A r)->BOk (addL n S L).2 (addL n S L).1.length (c+L.length)/\(addL n S L).2.n=(addL n S L).1.length/\(addL n S L).2.kind=A.kind
 | [],c,S,h,hl,hk,_=>⟨h,hl,hk⟩
 |r::t,c,S,h,hl,hk,hr=>by
  obtain⟨h1,h2,h3⟩:=QN (n:=n) hA h hl hk (hr r (by simp));obtain⟨h4,h5,h6⟩:=LB t h1 h2 h3 (λr' hr'=>hr r' (by simp[hr']));exact⟨h4.mono nlr (by rw[List.length_cons];omega),h5,h6⟩
theorem JH{al:Nat->Bool}:∀n,n<=(itP A B al n).1.length->(∀i p q f,i<n->(itP A B al n).1[i]?=some (p,q,f)->PrOk A B p q)->BOk (itP A B al n).2 (itP A B al n).1.length (acP A B al n)/\(itP A B al n).2.n=(itP A B al n).1.length/\(itP A B al n).2.kind=A.kind
 |0,_,_=>⟨(BOk.empty A.kind 0 (tmS A A.lead B.lead) 1).state (.inl rfl) (by unfold smS;decide),rfl,rfl⟩
 |n+1,hn,hP=>by
  have hn':n<(itP A B al n).1.length:=by
   rcases Nat.lt_or_ge n (itP A B al n).1.length with h|h
   ·exact h
   have e:itP A B al (n+1)=itP A B al n:=FO (A:=A) (B:=B) (al:=al) h 1;rw[e]at hn;omega
  obtain⟨x,hx⟩:∃x,(itP A B al n).1[n]?=some x:=⟨_,List.getElem?_eq_getElem hn'⟩;obtain⟨p,q,f⟩:=x;obtain⟨k,hk⟩:=hA.kk;obtain⟨hj,_⟩:=Jp.it (k:=k) (al:=al) hA hB n (by omega);obtain⟨hp,hq⟩:=hj.ok _ (List.mem_of_getElem? hx)
  dsimp only at hp hq
  have e:itP A B al (n+1)=addL n ((itP A B al n).1,finP A B p q n (itP A B al n).2) (arL A B (al p) p q f):=by
   show Ct A B al n (itP A B al n)=_;unfold Ct;rw[hx]
  have hkeep:∀(L:List ArP) (T:List Plc × MD),∃m,(addL n T L).1=T.1++m:=λL=>by
   induction L with
   |nil=>intro T;exact⟨[],by simp[addL]⟩
   |cons r t ih =>
    intro T;obtain⟨m,hm⟩:=ih<|addP n T r;obtain⟨m',hm'⟩:=FZ T r.2.2.2;exact⟨m'++m,by show (addL n (addP n T r) t).1=_;rw[hm];show (numP T r.2.2.2).1++m=_;rw[hm',List.append_assoc]⟩
  obtain⟨m,hm⟩:=hkeep (arL A B (al p) p q f) ((itP A B al n).1,finP A B p q n (itP A B al n).2);have hm2:(itP A B al (n+1)).1=(itP A B al n).1++m:=by rw[e];exact hm
  have hP':∀i p q f,i<n+1->(itP A B al n).1[i]?=some (p,q,f)->PrOk A B p q:=λi p' q' f' hi hx'=>hP i p' q' f' hi (by rw[hm2,List.getElem?_append_left (by omega)];exact hx');obtain⟨h1,h2,h3⟩:=JH n (by omega) (λi p' q' f' hi=>hP' i p' q' f' (by omega));have hPn:=hP' n p q f (by omega) hx;have hf:BOk (finP A B p q n (itP A B al n).2) (itP A B al n).1.length (acP A B al n):=by
   unfold finP;split
   ·exact h1
   rename_i hne;refine h1.setFin (.inr ?_) (Gy _ _ _);rw[h3];have e1:A.fin p≠⟨#[]⟩:=λe=>hne (.inl e);have e2:B.fin q≠⟨#[]⟩:=λe=>hne (.inr e);exact IB hA hB hk hkk ((hA.fin p hp).resolve_left e1) ((hB.fin q hq).resolve_left e2) (hPn.1 e1 e2)
  have hfn:(finP A B p q n (itP A B al n).2).n=(itP A B al n).1.length:=by rw[(Hb _).1];exact h2
  have hfk:(finP A B p q n (itP A B al n).2).kind=A.kind:=by unfold finP;split<;>exact h3
  obtain⟨h4,h5,h6⟩:=LB (n:=n) hA (arL A B (al p) p q f) (S:=((itP A B al n).1,finP A B p q n (itP A B al n).2)) hf hfn hfk (QX hA hB hkk hSA hSB hp hq hPn);rw[<-e]at h4 h5 h6;have ea:acP A B al (n+1)=acP A B al n+(arL A B (al p) p q f).length:=by
   show _+(match (itP A B al n).1[n]? with|none=>0|some (p,q,f)=>(arL A B (al p) p q f).length)=_
   rw[hx]
  rw[ea];exact⟨h4,h5,h6⟩
theorem CmpIs.vm{al:Nat->Bool}{n:Nat}{M:MD}(h:CmpIs A B al n M):VM M/\MSz M/\M.kind=A.kind/\M.start=0/\M.lead=tmS A A.lead B.lead/\M.n=n:=by
 obtain⟨k,u⟩:=hA.kk;have z:=h.len;obtain⟨p,_⟩:=Jp.it (k:=k) (al:=al) hA hB n (by omega);obtain⟨j,c,s⟩:=JH hA hB hkk hSA hSB (al:=al) n (by omega) h.pr;rw[<-h.eq]at j c s;obtain⟨g,l,i⟩:=p.hd;rw[<-h.eq]at g l i;rw[z]at j c;have C:(0:Nat)<n:=by
  have m:=p.st
  rcases Nat.eq_zero_or_pos n with o|o
  ·rw[List.getElem?_eq_none (by omega)]at m;cases m
  exact o
 have d:Au M.kind=true:=by rw[g];exact hA.kind
 refine⟨BOk.vm (by rw[c];exact j) d (by omega) (by have:=h.n3;omega) (by rw[l,c];omega) (by rw[i,g];exact IB hA hB u hkk hA.lead hB.lead h.lead) h.a3,BOk.msz j d (by have:=h.n3;omega) (by rw[i];exact Gy _ _ _) (by have:=h.a3;omega),g,l,i,c⟩
end
end
section
open Go.RowKit Go.Deep
instance (v:V):Decidable (fitV v):=by cases v<;>unfold fitV<;>infer_instance
def tb2(a b c d:ByteArray)(i j:Nat):ByteArray:=if i=0 then (if j=0 then a else b) else (if j=0 then c else d)
def k1:KK:=⟨1,.inl rfl⟩
def k2:KK:=⟨2,.inr (.inl rfl)⟩
def k3:KK:=⟨3,.inr (.inr rfl)⟩
def X2:=tb2 ⟨#[49,47,50]⟩ ⟨#[49,47,52]⟩ ⟨#[48]⟩ ⟨#[49,47,51]⟩
end
section
open Go.RowKit
set_option exponentiation.threshold 2000
variable{T:Nat}{v:V}{k:Int}
def bd(T:Nat):V->Prop
 | .fin q=>q.num.natAbs+q.den<=T
 |_=>True
def bd.fit(h:bd T v)(d:T<=10 ^ 399):fitV v:=by
 have g:(10:Nat) ^ 399<10 ^ 400:=Nat.pow_lt_pow_right (by omega) (by omega);cases v with
 |fin q =>
  have c:q.num.natAbs+q.den<=T:=h;exact EU.2 ⟨Nat.lt_of_le_of_lt (Nat.le_trans (Nat.le_add_right _ _) (Nat.le_trans c d)) g,Nat.lt_of_le_of_lt (Nat.le_trans (Nat.le_add_left _ _) (Nat.le_trans c d)) g⟩
 |inf=>trivial
 |low=>trivial
def LS{n:Int}{d:Nat}(hd:d≠0)(h:n.natAbs+d<=T):bd T (.fin (mkRat n d)):=by
 obtain⟨c,g⟩:=Ns (n:=n) hd;show (mkRat n d).num.natAbs+(mkRat n d).den<=T;omega
def Ro(c:1<=T):bd T (zeroV k):=by
 unfold zeroV;split
 ·trivial
 show (0:Rat).num.natAbs+(0:Rat).den<=T;simpa using c
def Rn{S:Nat}{w:V}(h:bd S v)(i:bd T w)(d:1<=S)(g:1<=T):bd (S*T) (Ai k v w):=by
 unfold Ai
 split
 ·exact Ro (Nat.mul_pos d g)
 cases v<;>cases w<;>try trivial
 rename_i x y _;have j:x.num.natAbs+x.den<=S:=h;have l:y.num.natAbs+y.den<=T:=i;have m:=Nat.mul_le_mul j l
 try simp only
 split
 ·rw[Rat.add_def'];refine LS (Nat.mul_ne_zero x.den_nz y.den_nz) ?_;have c:=Int.natAbs_add_le (x.num*y.den) (y.num*x.den);rw[Int.natAbs_mul,Int.natAbs_mul,Int.natAbs_natCast,Int.natAbs_natCast]at c;have:(x.num.natAbs+x.den)*(y.num.natAbs+y.den)=x.num.natAbs*y.num.natAbs+(x.num.natAbs*y.den+y.num.natAbs*x.den+x.den*y.den):=by grind
  omega
 rw[Rat.mul_def'];refine LS (Nat.mul_ne_zero x.den_nz y.den_nz) ?_;rw[Int.natAbs_mul];have:(x.num.natAbs+x.den)*(y.num.natAbs+y.den)=x.num.natAbs*y.num.natAbs+(x.num.natAbs*y.den+y.num.natAbs*x.den+x.den*y.den):=by grind
 omega
def sN(f:Nat->Nat):Nat->Nat
 |0=>0
 |n+1=>sN f n+f n
def fr(v:V)(a d:Nat):Prop:=v=.inf\/v=.fin ((a:Rat) / (d:Rat))
end
section
open Go.RowKit
set_option exponentiation.threshold 2000
end
section
open Go.RowKit
set_option exponentiation.threshold 2000
def dgn(s:ByteArray)(i:Nat):Nat:=((bts s).take i).countP dgt
theorem Sw(s:ByteArray):dgn s s.size=(bts s).countP dgt:=by unfold dgn;rw[List.take_of_length_le (by rw[Aq];exact nlr)]
theorem Ml(n:Nat):(dec n).countP dgt=(dec n).length:=List.countP_eq_length.2 λa c=>List.all_eq_true.1 (CW n) a c
def SD{q:Rat}(h:(txtL q).countP dgt<=4):bd 10000 (.fin q):=by
 show q.num.natAbs+q.den<=10000;unfold txtL at h;have c:(if negQ q then [45] else []:List UInt8).countP dgt=0:=by cases negQ q<;>decide
 have g:(dec q.num.natAbs).length<=4->q.num.natAbs<10 ^ (dec q.num.natAbs).length:=λ_=>(BK.1 nlr).1;have p1:=EO q.num.natAbs;rw[List.countP_append,List.countP_append,c,Ml]at h;by_cases hd:q.den=1
 ·rw[ifp hd]at h;have:=g (by simpa using h);have d:(10:Nat) ^ (dec q.num.natAbs).length<=10 ^ 4:=Nat.pow_le_pow_right (by omega) (by simpa using h);omega
 rw[ifn hd,List.countP_cons,Ml,ifn (by decide)]at h;have p2:=EO q.den;have i:q.num.natAbs<10 ^ 3:=(BK.1 (show (dec q.num.natAbs).length<=3 by omega)).1;have d:q.den<10 ^ 3:=(BK.1 (show (dec q.den).length<=3 by omega)).1;omega
def Xd{k:KK}{s:ByteArray}{x:RK k}(h:Is k 0 s x)(c:dgn s s.size<=4):bd 10000 x.1:=by
 obtain⟨d,_⟩:=Dh.1 h.vprs;obtain⟨rfl,_⟩:=Fp d;rw[Sw]at c;generalize x.1=v at c;cases v with
 |inf=>trivial
 |low=>trivial
 |fin q =>
  refine SD ?_;have:bts (vtxt (.fin q))=txtL q:=AK _;rw[this]at c;exact c
end
section
open Go.RowKit Go.Deep
def Sy(s:ByteArray)(k:Nat)(h:k<s.size):dgn s (k+1)=dgn s k+if dgt s[k] then 1 else 0:=by
 unfold dgn;rw[EB s k h,List.countP_append,List.countP_singleton]
theorem Sx(s:ByteArray)(k:Nat):dgn s k<=k:=by
 unfold dgn;exact Nat.le_trans List.countP_le_length (by rw[List.length_take];omega)
def cnZ(k:Int)(X:Nat->Nat->ByteArray)(i j:Nat):Nat:=if X i j=Aj k then 0 else 1
def cQ(k:Int)(n:Nat)(X:Nat->Nat->ByteArray)(q d:Nat):Nat:=sN (λi=>sN (cnZ k X i) n) q+sN (cnZ k X q) d

theorem LL{D:MD}(hs:MSz D):∀q,Ah D q<=q*140737488355328
 |0=>nlr
 |q+1=>by
  have h:=LL hs q;have h2:=hs.na q;show Ah D q+D.na q<=_;omega
def LH{D:MD}{v:Value}(w:World)(hM:Ma none w v D)(R:MSz D)(hn:D.n<=100):Calls prog 24 #[v] w (λr w'=>r=.returned (.int .i64 (Ah D D.n:Nat))/\Below w.heap.size w w'):=by
 obtain⟨sv,rfl,W⟩:=hM;obtain⟨a,l,b,U,A,C,BB,O,rfl,K,hc,hm,hb,k⟩:=W.open;unfold maxLen at hm;clear W;have u:=BoxM.new w D (.slice a D.n l);have s:=IY w (.cells #[.int .i64 D.kind,.int .i64 D.start,.string D.lead,.slice a D.n l] 25);have I:=qh<|λq=>LL R q;have J:=qh R.na;clear R;replace K:=qh K;replace hb:=qh hb;replace k:=qh k;have g:=qh u;clear u;have z:=qh s;clear s
 go_enter func24,ntmps24
 go_wp2_with fail
 obtain⟨Z,o⟩:=exq<|w.alloc (.cells #[.int .i64 D.kind,.int .i64 D.start,.string D.lead,.slice a D.n l] 25);obtain⟨T,E⟩:=exq<|w.heap.size;rw[<-o,<-E]at g;rw[<-o]at z;rw[<-o,<-E];clear o E
 go_loopw [3,4] (λc i wr=>∃q m:Nat,q<=D.n/\i=.int .i64 (q:Int)/\c=.int .i64 (m:Int)/\m=Ah D q/\BoxM wr T D (.slice a D.n l)/\Below w.heap.size w wr) (λ_ i _=>D.n-(intOf i).toNat)
 case atStart=>exact⟨0,0,Nat.zero_le _,rfl,rfl,rfl,g.o,z.o⟩
 obtain⟨q,m,hq,rfl,rfl,h,B,d⟩:=hrel;clear g z;have m3:=B.c3;have g:=qh B;clear B;replace d:=qh d;by_cases Q:q<D.n
 ·have a2:(q:Int)<(D.n:Int):=by omega
  have Y:(0:Int)<=(q:Int):=by omega
  obtain rfl:=K.o (by omega);have L:=(hb.o (by omega)).1;obtain⟨k1,k2,k3,k4,_⟩:=k.o q Q;generalize A q=aq at k2;have c1:=(d.o.cell (p:=(Ad b (U+q*2+1))) L).trans k2;clear k1 k2;have H:=I.o q;have P:=J.o q;have N:m<=100*140737488355328:=Nat.le_trans (Nat.le_of_eq h) (Nat.le_trans H (Nat.mul_le_mul_right _ (by omega)));clear H;have S:IntKind.i64.wrap ((m:Int)+(D.na q:Int))=(m:Int)+(D.na q:Int):=by rw[IntKind.wrap_i64];omega
  have F:m+D.na q=Ah D (q+1):=by rw[h];rfl
  have X:(D.na q:Int)<=9223372036854775807:=by omega
  replace F:=qh F;clear h N P;go_wp2;go_roundw
  case rel=>exact⟨q+1,m+D.na q,by omega,by go_num,by go_num,F.o,g.o,d.o⟩
  simp[intOf];omega
 have G:q=D.n:=by omega
 have a1:¬((q:Int)<(D.n:Int)):=by omega
 have j:m=Ah D D.n:=by rw[h,G]
 replace j:=qh j;clear h;replace G:=qh G;go_wp2;go_ret
 first|exact⟨rfl,d.o⟩|exact⟨BR (by rw[j.o]),d.o⟩
def KI(s:ByteArray)(w:World)(A:(s.size:Int)<=9223372036854775807):
  Calls prog 108 #[.string s] w λe w'=>e=.returned (.bool (decide (dgn s s.size<=4)))/\w=w':=by
 go_enter func108,ntmps108
 go_wp2_with fail
 go_loop [3,4] (λc i=>∃k:Nat,k<=s.size/\i=.int .i64 k/\c=.int .i64 (dgn s k:Nat)) (λ_ i=>s.size-(intOf i).toNat)
 case atStart=>exact⟨0,Nat.zero_le _,rfl,rfl⟩
 obtain⟨k,z,rfl,rfl⟩:=hrel;by_cases p:k<s.size
 ·have d:=Sy s k p;have u:=Sx s k;by_cases o:(s[k].toNat:Int)<48
  ·rw[Jk o]at d;have g:=qh d;clear d;have h:decide ((48:Int)<=(s[k].toNat:Int))=false:=by simp;omega
   go_wp2
   go_round
   case rel=>exact⟨k+1,by omega,by go_num,by rw[g.o];rfl⟩
   simp[intOf];omega
  by_cases m:(57:Int)<(s[k].toNat:Int)
  ·rw[Jj m]at d;have g:=qh d;clear d;have h:decide ((48:Int)<=(s[k].toNat:Int))=true:=by simp;omega
   have l:decide ((s[k].toNat:Int)<=57)=false:=by simp;omega
   go_wp2
   go_round
   case rel=>exact⟨k+1,by omega,by go_num,by rw[g.o];rfl⟩
   simp[intOf];omega
  rw[Jl (by omega) (by omega),ifp rfl]at d;have g:=qh d;clear d;have h:decide ((48:Int)<=(s[k].toNat:Int))=true:=by simp;omega
  have l:decide ((s[k].toNat:Int)<=57)=true:=by simp;omega
  go_wp2
  go_round
  case rel=>exact⟨k+1,by omega,by go_num,by rw[g.o];go_num⟩
  simp[intOf];omega
 have j:k=s.size:=by omega
 replace j:=qh j;go_wp2;go_ret;exact⟨AI (by rw[<-j.o];simp;omega),rfl⟩
structure ShM(D:MD):Prop where
 lead:dgn D.lead D.lead.size<=4
 st:∀i,i<D.n->dgn (D.fin i) (D.fin i).size<=4/\∀d,d<D.na i->dgn (D.aw i d) (D.aw i d).size<=4
def Xe{D:MD}{v:Value}(w:World)(hM:Ma none w v D)(Q:MSz D)(P:Prop)(S:P↔ShM D):Calls prog 58 #[v] w (TestE P w):=by
 replace S:=qh S;obtain⟨sv,rfl,hS⟩:=hM;obtain⟨a,s,b,R,A,C,BB,O,rfl,ha,hc,hm,hb,E⟩:=hS.open;unfold maxLen at hm;clear hS;have b1:=Q.n;have m:=BoxM.new w D (.slice a D.n s);have u:=IY w (.cells #[.int .i64 D.kind,.int .i64 D.start,.string D.lead,.slice a D.n s] 25);replace Q:=qh Q;replace ha:=qh ha;replace hb:=qh hb;replace E:=qh E;obtain⟨wm,o⟩:=exq<|w.alloc (.cells #[.int .i64 D.kind,.int .i64 D.start,.string D.lead,.slice a D.n s] 25);obtain⟨Y,B⟩:=exq<|w.heap.size;rw[<-o,<-B]at m;rw[<-o]at u;have m2:=m.c2;have j:=qh m;clear m;have I:=qh u;clear u;have a1:=qh (λW=>KI D.lead W (by have:=Q.o.lead;omega));rw[o,B]at m2
 go_enter func58,ntmps58
 go_wp2_with fail
 rw[<-o,<-B]at m2;rw[<-o,<-B];clear o B m2;refine(a1.o _).mono ?_;rintro r w1⟨rfl,rfl⟩;cases F:decide (dgn D.lead D.lead.size<=4)
 ·go_wp2;go_ret;exact⟨false,rfl,⟨(λh=>by cases h),λh=>by have T:=(S.o.1 h).lead;rw[decide_eq_true T]at F;cases F⟩,I.o⟩
 have HL:=qh<|of_decide_eq_true F
 go_wp2_with fail
 go_loopw [3] (λi wr=>∃q:Nat,q<=D.n/\i=.int .i64 (q:Int)/\(∀l,l<q->dgn (D.fin l) (D.fin l).size<=4/\∀d,d<D.na l->dgn (D.aw l d) (D.aw l d).size<=4)/\BoxM wr Y D (.slice a D.n s)/\Below w.heap.size w wr) (λi _=>D.n-(intOf i).toNat)
 case atStart=>exact⟨0,Nat.zero_le _,rfl,λl F=>by omega,j.o,I.o⟩
 obtain⟨q,hq,rfl,G,k,z⟩:=hrel;clear j I;have m3:=k.c3;replace G:=qh G;have j:=qh k;clear k;have c:=qh z;clear z;by_cases L:q<D.n
 ·have b2:(q:Int)<(D.n:Int):=by omega
  have a7:(0:Int)<=(q:Int):=by omega
  obtain rfl:=ha.o (by omega);have U:=(hb.o (by omega)).1;obtain⟨k1,k2,k3,k4,X,k6,k7⟩:=E.o q L;generalize A q=aq at k2 X;have c0:=(c.o.cell (p:=(Ad b (R+q*2))) U).trans k1;unfold maxLen at k4;clear k1;replace k2:=qh k2;replace k7:=qh k7;replace X:=qh X;replace k6:=qh k6;have b0:=Q.o.na q;have Z:=qh (λW=>KI (D.fin q) W (by have:=Q.o.fin q;omega))
  go_wp2_with fail
  refine(Z.o _).mono ?_;rintro r w2⟨rfl,rfl⟩;clear c0;cases hf:decide (dgn (D.fin q) (D.fin q).size<=4)
  ·go_wp2;go_ret;exact⟨false,rfl,⟨(λh=>by cases h),λh=>by have T:=((S.o.1 h).st q L).1;rw[decide_eq_true T]at hf;cases hf⟩,c.o⟩
  have HF:=qh<|of_decide_eq_true hf
  go_wp2_with fail
  go_loopw [4] (λi wr=>∃d:Nat,d<=D.na q/\i=.int .i64 (d:Int)/\(∀l,l<d->dgn (D.aw q l) (D.aw q l).size<=4)/\BoxM wr Y D (.slice (some (Ad b R)) D.n s)/\Below w.heap.size w wr) (λi _=>D.na q-(intOf i).toNat)
  case atStart=>exact⟨0,Nat.zero_le _,rfl,λl F=>by omega,j.o,c.o⟩
  clear j c m3;obtain⟨d,hd,rfl,g,k,z⟩:=hrel;have m3:=k.c3;replace g:=qh g;have j:=qh k;clear k;have c:=qh z;clear z;have c1:=(c.o.cell (p:=(Ad b (R+q*2+1))) U).trans k2.o;by_cases H:d<D.na q
  ·have a9:(d:Int)<(D.na q:Int):=by omega
   have a6:(0:Int)<=(d:Int):=by omega
   obtain rfl:=X.o (by omega);have a4:=(k6.o (by omega)).1;obtain⟨_,_,j2,_⟩:=k7.o d H;have e2:=(c.o.cell (p:=(Ad (BB q) (O q+d*4+2))) a4).trans j2;clear j2;have a2:=qh (λW=>KI (D.aw q d) W (by have:=Q.o.aw q d;omega))
   go_wp2_with fail
   refine(a2.o _).mono ?_;rintro r w2⟨rfl,rfl⟩;clear c1 e2;cases hw:decide (dgn (D.aw q d) (D.aw q d).size<=4)
   ·go_wp2;go_ret;exact⟨false,rfl,⟨(λh=>by cases h),λh=>by have T:=((S.o.1 h).st q L).2 d H;rw[decide_eq_true T]at hw;cases hw⟩,c.o⟩
   have HW:=qh<|of_decide_eq_true hw;go_wp2;go_roundw
   case rel =>
    refine⟨d+1,by omega,by go_num,λl F=>?_,j.o,c.o⟩
    rcases Nat.lt_succ_iff_lt_or_eq.1 F with J|J
    ·exact g.o l J
    subst J;exact HW.o
   simp[intOf];omega
  have K:d=D.na q:=by omega
  have a5:¬((d:Int)<(D.na q:Int)):=by omega
  replace K:=qh K;go_wp2;go_roundw
  case rel =>
   refine⟨q+1,by omega,by go_num,λl F=>?_,j.o,c.o⟩
   rcases Nat.lt_succ_iff_lt_or_eq.1 F with J|J
   ·exact G.o l J
   subst J;exact⟨HF.o,λd' a8=>g.o d' (by have:=K.o;omega)⟩
  simp[intOf];omega
 have N:q=D.n:=by omega
 have a5:¬((q:Int)<(D.n:Int)):=by omega
 replace N:=qh N;go_wp2;go_ret;exact⟨true,rfl,⟨λ_=>S.o.2 ⟨HL.o,λi hi=>G.o i (by have:=N.o;omega)⟩,λ_=>rfl⟩,c.o⟩
def LitL(n:Nat)(Ds:Nat->MD):Prop:=sM (λi=>(Ds i).n) n<=5/\sM (λi=>Ah (Ds i) (Ds i).n) n<=10/\∀i,i<n->ShM (Ds i)
def LiE(n:Nat)(Ds:Nat->MD)(w:World)(r:Ending)(w':World):Prop:=Below w.heap.size w w'/\∃b:Bool,r=.returned (.bool b)/\(b=true->LitL n Ds)
def Uf{n m:Nat}{g:Nat->MD}{na:Nat->Nat}{lv wv:Value}(w:World)(hl:MsS w lv n g)(hw:WsS w wv m na)(hs:∀i,i<n->MSz (g i))(hn:n<=3)(hm:m<=3)(k:∀i,i<n->(g i).n<=12/\Ah (g i) (g i).n<=60)(l:∀i,i<m->na i<=140737488355328):
  Calls prog 25 #[lv,wv] w (LiE n g w):=by
 obtain⟨a,b7,b,K,F,rfl,h2,h3,h4,h5⟩:=hl;obtain⟨a',b1,b',b5,A,C,rfl,g2,g3,g4,g5⟩:=hw;have HM:=qh h5;clear h5;replace g5:=qh g5;replace h4:=qh h4;have a6:=qh g4;clear g4;replace hs:=qh hs;replace k:=qh k;have S:=qh l;clear l;have HN:=qh hn;have b6:=qh hm;clear h2 h3 g2 g3
 go_enter func25,ntmps25
 go_wp2_with fail
 go_loopw [5,6,8] (λs c i wr=>∃(q E B:Nat),q<=n/\i=.int .i64 (q:Int)/\s=.int .i64 (E:Int)/\c=.int .i64 (B:Int)/\E=sM (λi=>(g i).n) q/\B=sM (λi=>Ah (g i) (g i).n) q/\(∀j,j<q->ShM (g j))/\Below w.heap.size w wr) (λ_ _ i _=>n-(intOf i).toNat)
 case atStart=>exact⟨0,0,0,Nat.zero_le _,rfl,rfl,rfl,rfl,rfl,λj hj=>by omega,blr⟩
 obtain⟨q,E,B,hq,rfl,rfl,rfl,z,o,I,a1⟩:=hrel;have d4:E<=36:=by
  rw[z];exact Nat.le_trans (Gp q λi hi=>(k.o i (by omega)).1) (by omega)
 have b8:B<=180:=by
  rw[o];exact Nat.le_trans (Gp q λi hi=>(k.o i (by omega)).2) (by omega)
 replace z:=qh z;replace o:=qh o;replace I:=qh I;have d:=qh a1;clear a1;by_cases P:q<n
 ·have d3:(q:Int)<(n:Int):=by omega
  have b4:(0:Int)<=(q:Int):=by omega
  obtain rfl:=h4.o (by omega);obtain⟨L,k1,k2,k3,k4,k5⟩:=HM.o q P;obtain⟨d1,d2⟩:=k.o q P;obtain⟨D,R⟩:=exq<|g q;have hz:=hs.o q P;rw[<-R]at k1 k2 k3 k5 d1 d2 hz;obtain⟨sa,sc,_,_,_,_,_,_,a5,_⟩:=k5.open;rw[a5]at k4 k5;clear a5;have HK:=qh<|show ∀W,Below w.heap.size w W->W.cell? (Ad b (K+q*4))=some (.int .i64 D.kind)/\W.cell? (Ad b (K+q*4+1))=some (.int .i64 D.start)/\W.cell? (Ad b (K+q*4+2))=some (.string D.lead)/\W.cell? (Ad b (K+q*4+3))=some (.slice sa D.n sc) from λW hb=>⟨(hb.cell (p:=(Ad b _)) L).trans k1,(hb.cell (p:=(Ad b _)) L).trans k2,(hb.cell (p:=(Ad b _)) L).trans k3,(hb.cell (p:=(Ad b _)) L).trans k4⟩;have U:=qh<|show ∀W,Below w.heap.size w W->Ma none W (.agg #[.int .i64 D.kind,.int .i64 D.start,.string D.lead,.slice sa D.n sc]) D from λW hb=>⟨_,rfl,k5.kept (Ag hb none)⟩;clear L k1 k2 k3 k4 k5;replace hz:=qh hz;obtain⟨c0,c1,c2,c3⟩:=HK.o wr d.o;have b0:IntKind.i64.wrap ((E:Int)+(D.n:Int))=((E+D.n:Nat):Int):=by rw[IntKind.wrap_i64];omega
  have N:=qh<|LH wr (U.o wr d.o) hz.o (by omega);obtain⟨dn,a2⟩:=exq<|D.n;obtain⟨X,G⟩:=exq<|Ah D D.n;rw[<-G]at N d2;have d5:IntKind.i64.wrap ((B:Int)+(X:Int))=((B+X:Nat):Int):=by rw[IntKind.wrap_i64];omega
  replace a2:=qh a2;replace G:=qh G;replace R:=qh R
  go_wp2_with fail
  refine N.o.mono ?_;rintro r w2⟨rfl,l⟩;replace d:=qh<|d.o.trans (l.mono d.o.size);clear l c0 c1 c2 c3 N;obtain⟨c0,c1,c2,c3⟩:=HK.o w2 d.o;have T:=qh<|Xe w2 (U.o w2 d.o) hz.o (ShM D) Iff.rfl
  go_wp2_with fail
  refine T.o.mono ?_;rintro r w3⟨bb,rfl,O,Z⟩;replace d:=qh<|d.o.trans (Z.mono d.o.size);clear Z c0 c1 c2 c3 T;replace O:=qh O;cases bb
  ·go_wp2;go_ret;exact⟨d.o,false,rfl,λh=>by cases h⟩
  go_wp2;go_roundw
  case rel =>
   refine⟨q+1,E+D.n,B+X,by omega,by go_num,by first|rfl|go_num,by first|rfl|go_num,by rw[z.o,R.o];rfl,by rw[o.o,G.o,R.o];rfl,λj hj=>?_,d.o⟩
   by_cases e:j=q
   ·rw[e,<-R.o];exact O.o.1 (by first|rfl|trivial)
   exact I.o j (by omega)
  simp[intOf];omega
 have u:q=n:=by omega
 have b9:¬((q:Int)<(n:Int)):=by omega
 replace u:=qh u
 go_wp2_with fail
 go_loopw [7,9] (λy i W=>∃(j Q:Nat),j<=m/\i=.int .i64 (j:Int)/\y=.int .i64 (Q:Int)/\Q=sM na j/\W=wr) (λ_ i _=>m-(intOf i).toNat)
 case atStart=>exact⟨0,0,Nat.zero_le _,rfl,rfl,rfl,rfl⟩
 obtain⟨j,Q,hj,rfl,rfl,J,rfl⟩:=hrel;have d6:Q<=422212465065984:=by
  rw[J];exact Nat.le_trans (Gp j λi hi=>S.o i (by omega)) (by omega)
 replace J:=qh J;by_cases a4:j<m
 ·have d0:(j:Int)<(m:Int):=by omega
  have b3:(0:Int)<=(j:Int):=by omega
  obtain rfl:=a6.o (by omega);obtain⟨L,k1⟩:=g5.o j a4;have c0:=(d.o.cell (p:=(Ad b' _)) L).trans k1;have a9:=S.o j a4;clear L k1;obtain⟨nj,H⟩:=exq<|na j;rw[<-H]at c0 a9;replace H:=qh H;generalize A j=aj at c0;generalize C j=cj at c0;have b0:IntKind.i64.wrap ((Q:Int)+(nj:Int))=((Q+nj:Nat):Int):=by rw[IntKind.wrap_i64];omega
  go_wp2;go_roundw
  case rel=>exact⟨j+1,Q+nj,by omega,by go_num,by first|rfl|go_num,by rw[J.o,H.o];rfl,by first|rfl|trivial⟩
  simp[intOf];omega
 have b2:¬((j:Int)<(m:Int)):=by omega
 by_cases h5:E<=5
 ·have a8:decide ((E:Int)<=5)=true:=by simp;omega
  by_cases a7:B<=10
  ·have Y:decide ((B:Int)<=10)=true:=by simp;omega
   have HL:=qh (show LitL n g from ⟨by rw[<-u.o,<-z.o];exact h5,by rw[<-u.o,<-o.o];exact a7,by rw[<-u.o];exact I.o⟩);go_wp2;go_ret;exact⟨d.o,_,rfl,λ_=>HL.o⟩
  have Y:decide ((B:Int)<=10)=false:=by simp;omega
  go_wp2;go_ret;exact⟨d.o,false,rfl,λh=>by cases h⟩
 have a8:decide ((E:Int)<=5)=false:=by simp;omega
 go_wp2;go_ret;exact⟨d.o,false,rfl,λh=>by cases h⟩
def selE(i o:Int):Bool:=decide<|i=o
def SZ:∀args w,(callFunc 105 args).run prog w=.ok (.enter 105 args) w:=λargs w=>by kernel_rfl
def Tc:∀args w,(callFunc 142 args).run prog w=.ok (.enter 142 args) w:=λargs w=>by kernel_rfl
def QJ(w:World)(i o:Int)(s:ByteArray)(t:Int):Calls prog 105 #[.agg #[.int .i64 i,.int .i64 o,.string s,.int .i64 t]] w (λr w'=>r=.returned (.bool (selE i o))/\Below w.heap.size w w'):=by
 have c:=(Below.refl w.heap.size w).alloc nlr (.cells #[.int .i64 i,.int .i64 o,.string s,.int .i64 t] 59);replace c:=qh c
 go_enter func105,ntmps105
 go_wp2;go_ret;exact⟨AI (by by_cases h:i=o<;>simp[selE,h]),c.o⟩
def XZ:TstA 105 #[] selE (λ_=>True) :=
 ⟨SZ,λc _ i o s t=>by
  have h:=QJ c i o s t;rw[show ∀a:Value,(#[a]++#[]:Array Value)=#[a] from λ_=>rfl];exact h⟩
def PAl(tb nf:Nat)(w:World):Prop:=w.heap[tb]?=some (.cells #[.func (.func nf) #[] #[]] 116 (0,0))
def Ya{nf:Nat}{sel:Int->Int->Bool}(u:Nat)(L:TstA nf #[] sel (λ_=>True)):TstA 142 #[.pointer (some (Ad u 0))] (λi o=>!sel i o) (PAl u nf):=by
 refine⟨Tc,λp E i o s t=>?_⟩;rw[show ∀a b:Value,(#[a]++#[b]:Array Value)=#[a,b] from λ_ _=>rfl];obtain⟨K,m⟩:=L;obtain⟨j,g⟩:=exq<|p.alloc (.cells #[.int .i64 i,.int .i64 o,.string s,.int .i64 t] 59);obtain⟨D,h⟩:=exq<|p.heap.size;have d:=(Below.refl p.heap.size p).alloc nlr (.cells #[.int .i64 i,.int .i64 o,.string s,.int .i64 t] 59);rw[<-g]at d;have H:j.heap[u]?=some (.cells #[.func (.func nf) #[] #[]] 116 (0,0)):=(d.block _ (lbk E)).trans E;have l:j.heap[D]?=some (.cells #[.int .i64 i,.int .i64 o,.string s,.int .i64 t] 59 (0,0)):=by rw[g,h];exact han p _
 obtain⟨J,F⟩:=exq<|j.drew;have I:j.cell? (Ad u 0)=some (.func (.func nf) #[] #[]):=by simp[World.cell?,H]
 obtain⟨⟨a0,B,C,a3⟩,_⟩:=cells4 l;have c:=m j trivial i o s t;rw[show ∀a:Value,(#[a]++#[]:Array Value)=#[a] from λ_=>rfl]at c;have G:=qh c;clear c m;have z:=qh d;clear d H l E F;rw[g]at I a0 B C a3;rw[h]at a0 B C a3
 go_enter func142,ntmps142
 go_wp2_with fail
 rw[<-g];clear I a0 B C a3 g h;refine G.o.mono ?_;rintro r N⟨rfl,k⟩;have A:=qh<|z.o.trans (k.mono z.o.size);clear k G z;go_wp2;go_ret;exact⟨AI (by cases sel i o<;>rfl),A.o⟩
variable{D:MD}
def Ly:AccD D↔∀i,i<D.n->anyA D i (λa b=>!selE a b)=false:=by
 constructor
 ·intro h i hi;refine LG λd hd=>?_;have:=h i d hi hd;simp[selE,this]
 intro h q d k hd;have j:=h q k;cases c:selE (D.ain q d) (D.aout q d)
 ·have g:anyA D q (λa b=>!selE a b)=true:=IS.2 ⟨d,hd,by simp[c]⟩;rw[j]at g;cases g
 unfold selE at c;simp at c;exact c.symm
def TstM(Q:Prop)(w:World)(r:Ending)(w':World):Prop:=Below w.heap.size w w'/\((Q/\r=.returned (.bool true))\/(¬Q/\r=.returned (.bool false)))
def QT{mv:Value}(w:World)(hM:Ma none w mv D)(a2:MSz D)(ht:Tab w):Calls prog 104 #[mv,.func (.func 105) #[] #[]] w (TstM (VM D/\AccD D) w):=by
 obtain⟨sv,rfl,hS⟩:=hM;obtain⟨a,cp,b,b4,A,C,BB,O,d0,ha,hc,hm,hb,E⟩:=hS.open;subst d0;unfold maxLen at hm;obtain⟨P,u⟩:=exq<|w.alloc (.cells #[.int .i64 D.kind,.int .i64 D.start,.string D.lead,.slice a D.n cp] 25);obtain⟨G,F⟩:=exq<|P.alloc (.cells #[.func (.func 105) #[] #[]] 116);have b3:P.heap.size=w.heap.size+1:=by rw[u];simp
 have b0:Fr (λ_=>False) w P:=by rw[u];exact Fr.alloc _ _
 have Y:Fr (λ_=>False) P G:=by rw[F];exact Fr.alloc _ _
 have Z:P.heap[w.heap.size]?=some (.cells #[.int .i64 D.kind,.int .i64 D.start,.string D.lead,.slice a D.n cp] 25 (0,0)):=by rw[u];exact han w _
 have d:G.heap[w.heap.size]?=some (.cells #[.int .i64 D.kind,.int .i64 D.start,.string D.lead,.slice a D.n cp] 25 (0,0)):=(Y.block _ (lbk Z) (λe=>e)).trans Z;have s:PAl (w.heap.size+1) 105 G:=by show G.heap[w.heap.size+1]?=_;rw[<-b3,F];exact han P _
 have H:Below w.heap.size w G:=(b0.trans Y).below nlr (λ_ e=>e.elim);obtain⟨mb,a1⟩:=exq<|w.heap.size;obtain⟨tb,a4⟩:=exq<|w.heap.size+1;obtain⟨⟨m0,m1,m2,m3⟩,_⟩:=cells4 d;have a7:=qh<|Fc G (⟨_,rfl,hS.kept (Ag H none)⟩:Ma none G (.agg #[.int .i64 D.kind,.int .i64 D.start,.string D.lead,.slice a D.n cp]) D) a2 (ht.below H nlr);rw[<-a1]at d;rw[<-a4]at s;have b7:mb<G.heap.size:=lbk d;have Q:=qh H;clear H;have T:=qh d;clear d Z b0 Y b3;have o:=qh s;clear s;replace hS:=qh hS;replace ht:=qh ht;replace a2:=qh a2;replace ha:=qh ha;have HB:=qh hb;clear hb;replace E:=qh E;rw[F,u]at m0 m1 m2 m3
 go_enter func104,ntmps104
 go_wp2_with fail
 rw[<-u,<-F,<-a4,<-a1];clear m0 m1 m2 m3 u F a1 a4;refine a7.o.mono ?_;rintro r w3⟨I,hr⟩;have N:=Q.o.trans<|I.mono Q.o.size;have d:=(I.block _ (lbk T.o)).trans T.o;have s:PAl tb 105 w3:=(I.block _ (lbk o.o)).trans o.o;obtain⟨⟨m0,m1,m2,m3⟩,_⟩:=cells4 d;clear I T o a7 Q b7;have R:=qh N;clear N;have o:=qh s;clear s d
 rcases hr with⟨hv,rfl⟩|⟨hv,rfl⟩
 rotate_left
 ·have HV:=qh hv;clear hv;go_wp2;go_ret;exact⟨R.o,.inr ⟨λh=>HV.o h.1,rfl⟩⟩
 have b8:=hv.n1;have b9:=hv.n2;have HV:=qh hv;clear hv;obtain rfl:=ha.o (by omega);obtain⟨n,hn⟩:=exq<|D.n;rw[<-hn]at b8 b9 m3 hc;have HN:=qh hn;rw[<-hn];clear hn
 go_wp2_with fail
 clear m0 m1 m2 m3
 go_loopw [13] (λa6 wr=>∃i:Nat,i<=n/\a6=.int .i64 (i:Int)/\Below w.heap.size w wr/\PAl tb 105 wr/\∀j,j<i->anyA D j (λa b=>!selE a b)=false) (λa6 _=>n-(intOf a6).toNat)
 case atStart=>exact⟨0,Nat.zero_le _,rfl,R.o,o.o,λj hj=>by omega⟩
 obtain⟨i,hi,rfl,a9,b2,K⟩:=hrel;clear R o;replace K:=qh K;have m:=qh a9;clear a9;have U:=qh b2;clear b2;by_cases d4:i<n
 ·have d3:(i:Int)<(n:Int):=by omega
  have d1:(0:Int)<=(i:Int):=by omega
  have b6:i<D.n:=by have:=HN.o;omega
  have a8:=(HB.o (by have:=HN.o;omega)).1;obtain⟨k1,k2,k3,k4,k5,k6,k7⟩:=E.o i b6;have t0:=(m.o.cell (p:=(Ad b (b4+i*2))) a8).trans k1;have t1:=(m.o.cell (p:=(Ad b (b4+i*2+1))) a8).trans k2;clear k1 k2;have b1:D.na i<=30000:=by have h1:=Nat.le_trans (FA D (show i+1<=D.n by omega)) HV.o.arcs;have h2:Ah D (i+1)=Ah D i+D.na i:=rfl;omega
  obtain⟨w4,a5⟩:=exq<|wr.alloc (.cells #[.string (D.fin i),.slice (A i) (D.na i) (C i)] 63);have W:Below wr.heap.size wr w4:=by rw[a5];exact(Below.refl _ wr).alloc nlr _
  have c:=m.o.trans<|W.mono m.o.size;have l:PAl tb 105 w4:=(W.block _ (lbk U.o)).trans U.o;have L:ArS none w4 (.slice (A i) (D.na i) (C i)) D i:=by
   by_cases h0:D.na i=0
   ·exact .inl ⟨h0,A i,C i,by rw[h0],k4⟩
   refine .inr ⟨BB i,O i,C i,by rw[k5 (by omega)],⟨Nat.lt_of_lt_of_le (k6 (by omega)).1 c.size,by simp⟩,k3,k4,λk hk=>?_⟩;obtain⟨u0,u1,u2,u3⟩:=k7 k hk;have J:=(k6 (by omega)).1;exact⟨(c.cell (p:=(Ad (BB i) (O i+k*4))) J).trans u0,(c.cell (p:=(Ad (BB i) (O i+k*4+1))) J).trans u1,(c.cell (p:=(Ad (BB i) (O i+k*4+2))) J).trans u2,(c.cell (p:=(Ad (BB i) (O i+k*4+3))) J).trans u3⟩
  have d5:∀(fn:Fn) (first cap:Array Value) (w:World),(Instr.makeFunc fn first cap).run prog w=.ok (.func fn first cap) w:=λ_ _ _ _=>rfl
  have HC:=qh<|Mk w4 L b1 (Ya tb XZ) (λwb hb=>(hb.block _ (lbk l)).trans l);have S:=qh c;clear c W L k3 k4 k5 k6 k7;have z:=qh l;clear l U m
  go_wp2_with fail
  rw[<-a5];clear t0 t1 a5;refine HC.o.mono ?_;rintro r w5⟨rfl,X⟩;have g:=S.o.trans<|X.mono S.o.size;have B:PAl tb 105 w5:=(X.block _ (lbk z.o)).trans z.o;replace g:=qh g;clear X S HC;replace B:=qh B;clear z;cases hp:anyA D i (λa b=>!selE a b)
  ·replace hp:=qh hp;go_wp2;go_roundw
   case rel=>exact⟨i+1,by omega,by go_num,g.o,B.o,λj hj=>by
    by_cases e:j=i
    ·subst e;exact hp.o
    exact K.o j (by omega)⟩
   simp[intOf];omega
  replace hp:=qh hp;go_wp2;go_ret;exact⟨g.o,.inr ⟨λh=>absurd (Ly.1 h.2 i (by have:=HN.o;omega)) (by rw[hp.o];simp),rfl⟩⟩
 have b5:n=i:=by omega
 subst b5;have d2:¬((n:Int)<(n:Int)):=by omega
 go_wp2;go_ret;exact⟨m.o,.inl ⟨⟨HV.o,Ly.2 (λi hi=>K.o i (by rw[HN.o];exact hi))⟩,rfl⟩⟩
def No{G:Value}(w:World)(H:Ma none w G D)(o:MSz D)(B:Tab w):Calls prog 54 #[G] w (TstM (VM D/\AccD D) w):=by
 obtain⟨sv,rfl,u⟩:=H;obtain⟨a,s,b,J,A,C,BB,O,z,_⟩:=u.open;subst z;obtain⟨h,c⟩:=exq<|w.alloc (.cells #[.int .i64 D.kind,.int .i64 D.start,.string D.lead,.slice a D.n s] 25);have d:Below w.heap.size w h:=by rw[c];exact(Below.refl _ w).alloc nlr _
 have l:h.heap[w.heap.size]?=some (.cells #[.int .i64 D.kind,.int .i64 D.start,.string D.lead,.slice a D.n s] 25 (0,0)):=by rw[c];exact han w _
 obtain⟨⟨m0,m1,E,F⟩,_⟩:=cells4 l;have i:=qh<|QT h (⟨_,rfl,u.kept (Ag d none)⟩:Ma none h (.agg #[.int .i64 D.kind,.int .i64 D.start,.string D.lead,.slice a D.n s]) D) o (B.below d nlr);have g:=qh d;clear d l o B u;rw[c]at m0 m1 E F
 go_enter func54,ntmps54
 go_wp2_with fail
 rw[<-c];clear m0 m1 E F c;refine i.o.mono ?_;rintro r K⟨k,I⟩;have j:=qh<|g.o.trans (k.mono g.o.size);clear k g i
 rcases I with⟨m,rfl⟩|⟨m,rfl⟩
 ·have p:=qh m;clear m;go_wp2;go_ret;exact⟨j.o,.inl ⟨p.o,rfl⟩⟩
 have p:=qh m;clear m;go_wp2;go_ret;exact⟨j.o,.inr ⟨p.o,rfl⟩⟩
end
section
open Go.RowKit Go.Deep
variable{b:Nat}
def rcs(A B:MD)(sa sb:Value)(D:MD)(sv:Value)(qv:Value)(ac fl:Int):Array Value :=
 #[.int .i64 A.kind,.int .i64 A.start,.string A.lead,sa,.int .i64 B.kind,.int .i64 B.start,.string B.lead,sb,.int .i64 D.kind,.int .i64 D.start,.string D.lead,sv,qv,.int .i64 ac,.int .i64 fl]
section
variable{w:World}{cb:Nat}{A B:MD}{sa sb:Value}{D:MD}{sv:Value}{qv:Value}{ac fl:Int}{t:TypeId}(h:w.heap[cb]?=some (.cells (rcs A B sa sb D sv qv ac fl) t (0,0)))
include h
theorem Rcs.c3:w.cell? (Ad cb 3)=some sa:=by unfold rcs at h;simp[World.cell?,h]
theorem Rcs.c7:w.cell? (Ad cb 7)=some sb:=by unfold rcs at h;simp[World.cell?,h]
theorem Rcs.c8:w.cell? (Ad cb 8)=some (.int .i64 D.kind):=by unfold rcs at h;simp[World.cell?,h]
theorem Rcs.c9:w.cell? (Ad cb 9)=some (.int .i64 D.start):=by unfold rcs at h;simp[World.cell?,h]
theorem Rcs.c10:w.cell? (Ad cb 10)=some (.string D.lead):=by unfold rcs at h;simp[World.cell?,h]
theorem Rcs.c11:w.cell? (Ad cb 11)=some sv:=by unfold rcs at h;simp[World.cell?,h]
theorem Rcs.c12:w.cell? (Ad cb 12)=some qv:=by unfold rcs at h;simp[World.cell?,h]
theorem Rcs.c13:w.cell? (Ad cb 13)=some (.int .i64 ac):=by unfold rcs at h;simp[World.cell?,h]
theorem Rcs.c14:w.cell? (Ad cb 14)=some (.int .i64 fl):=by unfold rcs at h;simp[World.cell?,h]
theorem Rcs.fz(j:Nat):w.frozen? (Ad cb j)=false:=by simp[World.frozen?,h]
theorem Rcs.set11(v:Value):(w.setCell (Ad cb 11) v).heap[cb]?=some (.cells (rcs A B sa sb D v qv ac fl) t (0,0)):=by
 unfold rcs at h ⊢;simp[World.setCell,Array.getElem?_modify,h]
theorem Rcs.set12(v:Value):(w.setCell (Ad cb 12) v).heap[cb]?=some (.cells (rcs A B sa sb D sv v ac fl) t (0,0)):=by
 unfold rcs at h ⊢;simp[World.setCell,Array.getElem?_modify,h]
theorem Rcs.set13(a:Int):(w.setCell (Ad cb 13) (.int .i64 a)).heap[cb]?=some (.cells (rcs A B sa sb D sv qv a fl) t (0,0)):=by
 unfold rcs at h ⊢;simp[World.setCell,Array.getElem?_modify,h]
theorem Rcs.set14(a:Int):(w.setCell (Ad cb 14) (.int .i64 a)).heap[cb]?=some (.cells (rcs A B sa sb D sv qv ac a) t (0,0)):=by
 unfold rcs at h ⊢;simp[World.setCell,Array.getElem?_modify,h]
end
structure Rps(w:World)(B0 cb:Nat)(A B:MD)(sa sb:Value)(lq:List Plc)(D:MD)(R:Nat->Value)(sv:Value)(qv:Value)(ac fl:Int):Prop where
 blk:w.heap[cb]?=some (.cells (rcs A B sa sb D sv qv ac fl) 79 (0,0))
 own:OwM w B0 sv D R
 que:w.ownsRow B0 82 3 qv lq.length (plL lq)
 low:B0<=cb
def FreR(w:World)(sv:Value)(R:Nat->Value)(n:Nat)(qv:Value)(b:Nat):Prop:=b<w.heap.size/\sv.ownBlock≠some b/\(∀i,i<n->(R i).ownBlock≠some b)/\qv.ownBlock≠some b
def RfK(cb:Nat)(w:World)(sv:Value)(R:Nat->Value)(n:Nat)(qv:Value)(w':World)(sv':Value)(R':Nat->Value)(n':Nat)(qv':Value):Prop:=∀b,b≠cb->FreR w sv R n qv b->FreR w' sv' R' n' qv' b/\w'.heap[b]?=w.heap[b]?
theorem RfK.trans{j:Nat}{w w1 o:World}{sv g i:Value}{R l m:Nat->Value}{n n1 n2:Nat}{qv c d:Value}(h:RfK j w sv R n qv w1 g l n1 c)(k:RfK j w1 g l n1 c o i m n2 d):RfK j w sv R n qv o i m n2 d:=λb hb hf=>by
 obtain⟨p,s⟩:=h b hb hf;obtain⟨u,z⟩:=k b hb p;exact⟨u,z.trans s⟩
def RpE(B0 cb:Nat)(A B:MD)(sa sb:Value)(w:World)(n:Nat)(R:Nat->Value)(sv qv:Value)(lq:List Plc)(D:MD)(ac fl:Int)(w':World):Prop :=
 (∃R' sv' qv',Rps w' B0 cb A B sa sb lq D R' sv' qv' ac fl/\RfK cb w sv R n qv w' sv' R' D.n qv')/\Below B0 w w'
section
variable{w w':World}{B0 cb:Nat}{A B:MD}{sa sb:Value}{lq:List Plc}{D:MD}{R:Nat->Value}{sv qv:Value}{ac fl:Int}(h:Rps w B0 cb A B sa sb lq D R sv qv ac fl)
include h
theorem Rps.lt:cb<w.heap.size:=lbk h.blk
theorem Rps.rows(hb:sv.ownBlock=some b):b≠cb/\qv.ownBlock≠some b :=
 ⟨λe=>Ao h.own.top h.blk (by decide) (by rw[hb,e]),Gm h.own.top h.que (by decide) hb⟩
theorem Rps.rowi{i:Nat}(hi:i<D.n)(hb:(R i).ownBlock=some b):b≠cb/\qv.ownBlock≠some b :=
 ⟨λe=>Ao (h.own.row i hi) h.blk (by decide) (by rw[hb,e]),Gm (h.own.row i hi) h.que (by decide) hb⟩
theorem Rps.rowq(hb:qv.ownBlock=some b):b≠cb/\sv.ownBlock≠some b/\∀i,i<D.n->(R i).ownBlock≠some b :=
 ⟨λe=>Ao h.que h.blk (by decide) (by rw[hb,e]),λe=>(h.rows e).2 hb,λi hi e=>(h.rowi hi e).2 hb⟩
theorem Rps.below(hb:Below w.heap.size w w'):Rps w' B0 cb A B sa sb lq D R sv qv ac fl/\RfK cb w sv R D.n qv w' sv R D.n qv :=
 ⟨⟨(hb.block cb h.lt).trans h.blk,⟨AJ h.own.top (Ag hb none) (λ_ _=>by simp),λi hi=>AJ (h.own.row i hi) (Ag hb none) (λ_ _=>by simp),h.own.apart⟩,AJ h.que (Ag hb none) (λ_ _=>by simp),h.low⟩,
  λb _ hf=>⟨⟨Nat.lt_of_lt_of_le hf.1 hb.size,hf.2⟩,hb.block b hf.1⟩⟩
theorem Rps.queue{x:Plc}{d:Value}(o:w'.ownsRow B0 82 3 d (lq.length+1) (plL lq++plC x))(k:w.grownBy w' qv.ownBlock)(l:∀c,d.ownBlock=some c->qv.ownBlock=some c\/w.heap.size<=c):
  Rps (w'.setCell (Ad cb 12) d) B0 cb A B sa sb (lq++[x]) D R sv d ac fl/\RfK cb w sv R D.n qv (w'.setCell (Ad cb 12) d) sv R D.n d:=by
 have g:w'.heap[cb]?=some (.cells (rcs A B sa sb D sv qv ac fl) 79 (0,0)):=(k.block cb h.lt (λe=>(h.rowq e.symm).1 rfl)).trans h.blk;have j:OwM w' B0 sv D R:=h.own.kept2 k (λb hb e=>(h.rows hb).2 e) (λi hi b hb e=>(h.rowi hi hb).2 e);refine⟨⟨Rcs.set12 g d,j.other (p:=(Ad cb 12)) (Ao j.top g (by decide)) (λi hi=>Ao (j.row i hi) g (by decide)) _,?_,h.low⟩,λb hb hf=>⟨⟨?_,hf.2.1,hf.2.2.1,λe=>?_⟩,?_⟩⟩
 ·rw[List.length_append,NZ];exact BF o (p:=(Ad cb 12)) (Ao o g (by decide)) _
 ·rw[nblk_setCell];exact Nat.lt_of_lt_of_le hf.1 k.size
 ·rcases l b e with m|m
  ·exact hf.2.2.2 m
  have:=hf.1;omega
 rw[Aw hb];exact k.block b hf.1 (λe=>hf.2.2.2 e.symm)
theorem Rps.state{o:Obj}{f:ByteArray}{d:Value}(E:w'.ownsRow B0 63 2 d (D.n+1) (cat (st2 D R) D.n++[.string f,.slice none 0 0]))(l:(w.alloc o).grownBy w' sv.ownBlock)(m:∀c,d.ownBlock=some c->sv.ownBlock=some c\/w.heap.size<=c):
  Rps (w'.setCell (Ad cb 11) d) B0 cb A B sa sb lq (D.state f) (λi=>if i=D.n then .slice none 0 0 else R i) d qv ac fl/\RfK cb w sv R D.n qv (w'.setCell (Ad cb 11) d) d (λi=>if i=D.n then .slice none 0 0 else R i) (D.state f).n qv:=by
 have k:∀b,b<w.heap.size->sv.ownBlock≠some b->w'.heap[b]?=w.heap[b]?:=λb hb C=>(l.block b (by simp;omega) (λe=>C e.symm)).trans (blk_alloc_lt _ _ _ hb);have g:w'.heap[cb]?=some (.cells (rcs A B sa sb D sv qv ac fl) 79 (0,0)):=(k cb h.lt (λe=>(h.rows e).1 rfl)).trans h.blk;have j:=h.own.state E l;refine⟨⟨Rcs.set11 g d,j.other (p:=(Ad cb 11)) (Ao j.top g (by decide)) (λi hi=>Ao (j.row i hi) g (by decide)) _,?_,h.low⟩,λb hb hf=>⟨⟨?_,λe=>?_,λi hi=>?_,hf.2.2.2⟩,?_⟩⟩
 ·have u:w'.ownsRow B0 82 3 qv lq.length (plL lq):=AJ (World.ownsRow.alloc h.que o) l (λb hb e=>(h.rowq hb).2.1 e);exact BF u (p:=(Ad cb 11)) (Ao u g (by decide)) _
 ·rw[nblk_setCell];exact Nat.lt_of_lt_of_le hf.1 (Nat.le_trans (by simp) l.size)
 ·rcases m b e with s|s
  ·exact hf.2.1 s
  have:=hf.1;omega
 ·dsimp only
  split
  ·simp[Value.ownBlock]
  have z:i<D.n+1:=hi;exact hf.2.2.1 i (by omega)
 rw[Aw hb];exact k b hf.1 hf.2.1
theorem Rps.arc{q g cap:Nat}{v':Value}{o:Obj}{a b t:Int}{x:ByteArray}(l:q<D.n)(s:sv=.slice (some (Ad g 0)) D.n cap)(H:w'.ownsRow B0 59 4 v' (D.na q+1) (cat (arc4 D q) (D.na q)++[.int .i64 a,.int .i64 b,.string x,.int .i64 t]))(z:(w.alloc o).grownBy w' (R q).ownBlock)
  (d:∀c,v'.ownBlock=some c->(R q).ownBlock=some c\/w.heap.size<=c) :
  Rps (w'.setCell (Ad g (q*2+1)) v') B0 cb A B sa sb lq (D.arc q a b x t) (λi=>if i=q then v' else R i) sv qv ac fl/\RfK cb w sv R D.n qv (w'.setCell (Ad g (q*2+1)) v') sv (λi=>if i=q then v' else R i) (D.arc q a b x t).n qv:=by
 have j:∀b,b<w.heap.size->(R q).ownBlock≠some b->w'.heap[b]?=w.heap[b]?:=λb hb G=>(z.block b (by simp;omega) (λe=>G e.symm)).trans (blk_alloc_lt _ _ _ hb);have m:sv.ownBlock=some g:=by rw[s];rfl
 have k:=h.rows m;have u:=s;subst u;have C:=h.own.arc (a:=a) (b:=b) (x:=x) (t:=t) l H z d;refine⟨⟨(Aw (show cb≠g from λe=>k.1 e.symm)).trans ((j cb h.lt (λe=>(h.rowi l e).1 rfl)).trans h.blk),C,?_,h.low⟩,λb hb hf=>⟨⟨?_,hf.2.1,λi hi=>?_,hf.2.2.2⟩,?_⟩⟩
 ·have E:w'.ownsRow B0 82 3 qv lq.length (plL lq):=AJ (World.ownsRow.alloc h.que o) z (λb hb e=>(h.rowq hb).2.2 q l e);exact BF E (p:=(Ad g (q*2+1))) k.2 _
 ·rw[nblk_setCell];exact Nat.lt_of_lt_of_le hf.1 (Nat.le_trans (by simp) z.size)
 ·dsimp only
  split
  ·intro e
   rcases d b e with F|F
   ·exact hf.2.2.1 q l F
   have:=hf.1;omega
  exact hf.2.2.1 i hi
 rw[Aw (show b≠g from λe=>hf.2.1 (by rw[e];exact m))];exact j b hf.1 (hf.2.2.1 q l)
theorem Rps.setFin{q g cap:Nat}{s:ByteArray}(k:q<D.n)(i:sv=.slice (some (Ad g 0)) D.n cap):
  Rps (w.setCell (Ad g (q*2)) (.string s)) B0 cb A B sa sb lq (D.setFin q s) R sv qv ac fl/\RfK cb w sv R D.n qv (w.setCell (Ad g (q*2)) (.string s)) sv R (D.setFin q s).n qv:=by
 have d:sv.ownBlock=some g:=by rw[i];rfl
 have c:=h.rows d;have j:=i;subst j;exact⟨⟨(Aw (show cb≠g from λe=>c.1 e.symm)).trans h.blk,h.own.setFin k s,BF h.que (p:=(Ad g (q*2))) c.2 _,h.low⟩,
  λb hb hf=>⟨⟨by rw[nblk_setCell];exact hf.1,hf.2⟩,Aw (show b≠g from λe=>hf.2.1 (by rw[e];exact d))⟩⟩
theorem Rps.count(a:Int):Rps (w.setCell (Ad cb 13) (.int .i64 a)) B0 cb A B sa sb lq D R sv qv a fl/\RfK cb w sv R D.n qv (w.setCell (Ad cb 13) (.int .i64 a)) sv R D.n qv :=
 ⟨⟨Rcs.set13 h.blk a,h.own.other (p:=(Ad cb 13)) (Ao h.own.top h.blk (by decide)) (λi hi=>Ao (h.own.row i hi) h.blk (by decide)) _,BF h.que (p:=(Ad cb 13)) (Ao h.que h.blk (by decide)) _,h.low⟩,
  λb hb hf=>⟨⟨by rw[nblk_setCell];exact hf.1,hf.2⟩,Aw hb⟩⟩
theorem Rps.err(e:Int):Rps (w.setCell (Ad cb 14) (.int .i64 e)) B0 cb A B sa sb lq D R sv qv ac e/\RfK cb w sv R D.n qv (w.setCell (Ad cb 14) (.int .i64 e)) sv R D.n qv :=
 ⟨⟨Rcs.set14 h.blk e,h.own.other (p:=(Ad cb 14)) (Ao h.own.top h.blk (by decide)) (λi hi=>Ao (h.own.row i hi) h.blk (by decide)) _,BF h.que (p:=(Ad cb 14)) (Ao h.que h.blk (by decide)) _,h.low⟩,
  λb hb hf=>⟨⟨by rw[nblk_setCell];exact hf.1,hf.2⟩,Aw hb⟩⟩
theorem Rps.lead(l:ByteArray):Rps (w.setCell (Ad cb 10) (.string l)) B0 cb A B sa sb lq { D with lead:=l } R sv qv ac fl :=
 ⟨by have c:=h.blk;unfold rcs at c ⊢;simp[World.setCell,Array.getElem?_modify,c],by
  have c:=h.own.other (p:=(Ad cb 10)) (Ao h.own.top h.blk (by decide)) (λi hi=>Ao (h.own.row i hi) h.blk (by decide)) (.string l);exact⟨c.top,c.row,c.apart⟩,BF h.que (p:=(Ad cb 10)) (Ao h.que h.blk (by decide)) _,h.low⟩
end
def RtE(cb:Nat)(z:ByteArray × Nat)(w:World)(r:Ending)(w':World):Prop:=r=.returned (.string z.1)/\∃w1,Below w.heap.size w w1/\w'=if z.2=0 then w1 else w1.setCell (Ad cb 14) (.int .i64 (z.2:Int))
end
section
open Go.RowKit Go.Deep
def KB{c:Nat}{k:Int}(w:World)(F:w.cell? (Ad c 8)=some (.int .i64 k)){u:Value}(B:w.cell? (Ad c 14)=some u)(hf:w.frozen? (Ad c 14)=false)(g:c<w.heap.size)(v x:ByteArray)(m:v.size<=9223372036854775807)(o:x.size<=9223372036854775807):
  Calls prog 49 #[.pointer (some (Ad c 0)),.string v,.string x] w (RtE c (Ae k v x) w):=by
 have j:=qh<|Ko k v x w m o;clear m o;obtain⟨z,p⟩:=exq<|Ae k v x;rw[<-p]at j ⊢;clear p;obtain⟨G,i⟩:=z
 go_enter func49,ntmps49
 go_wp2_with fail
 refine j.o.mono ?_;rintro r h⟨rfl,hb⟩;have d:h.cell? (Ad c 14)=w.cell? (Ad c 14):=hb.cell g;have A:h.frozen? (Ad c 14)=false:=(hb.frozen g).trans hf;rw[<-d]at B;replace hb:=qh hb;clear d;by_cases l:i=0
 ·subst l;go_wp2;go_ret;exact⟨rfl,h,hb.o,rfl⟩
 have C:¬((i:Int)=0):=by omega
 have D:decide ((i:Int)=0)=false:=by simp;omega
 have E:((i:Int)==0)=false:=by simp;omega
 have s:=qh l;go_wp2;go_ret;exact⟨rfl,h,hb.o,(ifn s.o).symm⟩
end
end Go.Proofs.YtpldocnhbdlgfaaGreatDoor
