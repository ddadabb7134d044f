/- Parts. -/
import Derived.Test.YtpldocnhbdlgfaaGreatDoorPa10
import Derived.Test.YtpldocnhbdlgfaaGreatDoorPa09
namespace Go.Proofs.YtpldocnhbdlgfaaGreatDoor
set_option maxRecDepth 100000
set_option linter.all false
set_option maxHeartbeats 16000000
open Go Tryz
section
open Go CSR
variable{d n p q:Nat}{f:Bool}
def alF(A:MD)(p:Nat):Bool:=(List.range (A.na p)).any λk=>A.aout p k==0
def LQ(A:MD)(p:Nat):alF A p=true\/∀k,k<A.na p->A.aout p k≠0:=by
 cases h:alF A p
 ·right;intro k c e
  unfold alF at h;rw[List.any_eq_false]at h;exact h k (List.mem_range.2 c) (by simp[e])
 exact .inl rfl
def acP(A B:MD)(al:Nat->Bool):Nat->Nat
 |0=>0
 |n+1=>acP A B al n+match (itP A B al n).1[n]? with|none=>0|some (p,q,f)=>(arL A B (al p) p q f).length
def bnd(A B:MD):Nat:=Ai A A.n+Ai A A.n*Ai B B.n+Ai B B.n
structure Cvi(A B:MD)(al:Nat->Bool)(n:Nat)(S:List Plc × MD)(ac fl:Nat):Prop where
 nd:S.1.Nodup
 len:S.2.n=S.1.length
 ok:∀x ∈ S.1,x.1<A.n/\x.2.1<B.n
 le:S.1.length<=3001
 na:∀i,S.2.na i<=ac
 ac1:ac<=30001
 acn:ac<=n*bnd A B
 nn:n<=S.1.length
 fl2:fl=0\/fl=2
 good:fl=0->S.1.length<=3000/\ac<=30000/\S=itP A B al n/\ac=acP A B al n/\(Ae A.kind A.lead B.lead).2=0/\∀i p q f,i<n->S.1[i]?=some (p,q,f)->PrOk A B p q
 bad:fl=2->BadW A B\/3000<S.1.length\/30000<ac
def BadC(A B:MD):Prop:=BadW A B\/3000<2*(A.n*B.n)\/30000<2*(A.n*B.n)*bnd A B
section
variable{A B:MD}{al:Nat->Bool}{n:Nat}{S:List Plc × MD}{ac fl:Nat}
def Cvi.badC(h:Cvi A B al n S ac fl)(hf:fl=2):BadC A B:=by
 have d:=TP h.nd h.ok
 rcases h.bad hf with c|c|c
 ·exact .inl c
 ·exact .inr (.inl (by omega))
 have g:n*bnd A B<=2*(A.n*B.n)*bnd A B:=Nat.mul_le_mul_right _ (Nat.le_trans h.nn d);exact .inr (.inr (by have:=h.acn;omega))
def Cvi.lvi(h:Cvi A B al n S ac 0)(hn:n<S.1.length):Lvi A B n [] S S ac ac 0 :=
 ⟨h.nd,h.len,h.ok,h.le,h.na,h.ac1,nlr,hn,⟨[],by simp⟩,.inl rfl,λ_=>⟨(h.good rfl).1,rfl,rfl⟩,λe=>by cases e⟩
def Cvi.next{s:List Plc × MD}{j:Nat}(h:Cvi A B al n S ac 0)(k:S.1[n]?=some (p,q,f))(c:Lvi A B n (arL A B (al p) p q f) (S.1,finP A B p q n S.2) s ac d j)(L:j=0->PrOk A B p q/\d<=30000):Cvi A B al (n+1) s d j:=by
 obtain⟨J,K⟩:=h.ok _ (List.mem_of_getElem? k);obtain⟨m,o⟩:=c.pre;have o:s.1=S.1++m:=o;have I:n<S.1.length:=by
  rcases Nat.lt_or_ge n S.1.length with l|l
  ·exact l
  rw[List.getElem?_eq_none l]at k;cases k
 refine⟨c.nd,c.len,c.ok,c.le,c.na,c.ac1,?_,by have:=c.n1;omega,c.fl2,λe=>?_,c.bad⟩
 ·have l:=c.acn;have G:=Rs J K (al p) f;have H:=h.acn;rw[Nat.succ_mul];obtain⟨b,hb⟩:=exq<|bnd A B;have U:(arL A B (al p) p q f).length<=b:=by rw[hb];exact G
  rw[<-hb]at H ⊢;omega
 obtain⟨R,T,u,D,E,F⟩:=h.good rfl;obtain⟨k1,k2,k3⟩:=c.good e;obtain⟨P,Q⟩:=L e;refine⟨k1,Q,?_,?_,E,λi N O C hi g=>?_⟩
 ·rw[k2];show _=BX A B al n (itP A B al n);rw[<-u];unfold BX;rw[k]
 ·show d=acP A B al n+match (itP A B al n).1[n]? with|none=>0|some (p,q,f)=>(arL A B (al p) p q f).length
  rw[<-u,k,k3,D]
 by_cases z:i=n
 ·subst z;rw[o,List.getElem?_append_left I,k]at g;cases g;exact P
 rw[o,List.getElem?_append_left (by omega)]at g;exact F i N O C (by omega) g
end
structure CmpIs(A B:MD)(al:Nat->Bool)(n:Nat)(M:MD):Prop where
 len:(itP A B al n).1.length=n
 eq:M=(itP A B al n).2
 n3:n<=3000
 a3:acP A B al n<=30000
 lead:(Ae A.kind A.lead B.lead).2=0
 pr:∀i p q f,i<n->(itP A B al n).1[i]?=some (p,q,f)->PrOk A B p q
def Cvi.is{A B:MD}{al:Nat->Bool}{S:List Plc × MD}(h:Cvi A B al n S d 0)(hn:n=S.1.length):CmpIs A B al n S.2:=by
 obtain⟨j,k,c,l,g,i⟩:=h.good rfl;exact⟨by rw[<-c];exact hn.symm,by rw[<-c],by omega,by omega,g,by rw[<-c];exact i⟩
section
variable{A B:MD}(hA:VM A)(hB:VM B)(hkk:A.kind=B.kind)(hSA:MSz A)(hSB:MSz B)
include hA hB hkk hSA hSB
def OkAr(A:MD)(r:ArP):Prop:=(0<=r.1/\r.1<=500)/\(0<=r.2.1/\r.2.1<=500)/\Am A.kind r.2.2.1=true/\smS r.2.2.1
theorem Ru{al:Bool}(o:p<A.n)(s:q<B.n)(D:PrOk A B p q):∀r ∈ arL A B al p q f,OkAr A r:=by
 obtain⟨k,F⟩:=hA.kk;have u:∀i,i<A.na p->A.aout p i≠0->∀m,m<=B.na q->∀r ∈ mtL A B p q i m,OkAr A r:=λi hi j m=>by
  induction m with
  |zero=>intro _ r c;cases c
  |succ m ih =>
   intro l r c
   rcases List.mem_append.1 c with h|h
   ·exact ih (by omega) r h
   split at h
   ·rename_i E;have e:=List.mem_singleton.1 h;have g:=hA.arc p i o hi;have d:=hB.arc q m s (by omega);rw[e];exact⟨⟨g.i0,g.i1⟩,⟨d.o0,d.o1⟩,IM hA hB F hkk g.wt d.wt (D.2 i m hi (by omega) j E),GC _ _ _⟩
   cases h
 have z:∀m,m<=A.na p->∀r ∈ lfL A B p q f m,OkAr A r:=λm=>by
  induction m with
  |zero=>intro _ r c;cases c
  |succ m ih =>
   intro l r c
   rcases List.mem_append.1 c with h|h
   ·exact ih (by omega) r h
   split at h
   ·split at h
    ·cases h
    have e:=List.mem_singleton.1 h;have g:=hA.arc p m o (by omega);rw[e];exact⟨⟨g.i0,g.i1⟩,⟨by show (0:Int)<=0;omega,by show (0:Int)<=500;omega⟩,g.wt,hSA.aw p m⟩
   rename_i j;exact u m (by omega) j _ nlr r h
 have C:∀m,m<=B.na q->∀r ∈ rtL B al p q m,OkAr A r:=λm=>by
  induction m with
  |zero=>intro _ r c;cases c
  |succ m ih =>
   intro l r c
   rcases List.mem_append.1 c with h|h
   ·exact ih (by omega) r h
   split at h
   ·have e:=List.mem_singleton.1 h;have d:=hB.arc q m s (by omega);rw[e];exact⟨⟨by show (0:Int)<=0;omega,by show (0:Int)<=500;omega⟩,⟨d.o0,d.o1⟩,by rw[hkk];exact d.wt,hSB.aw q m⟩
   cases h
 intro r c
 rcases List.mem_append.1 c with h|h
 ·exact z _ nlr r h
 exact C _ nlr r h
omit hB hkk hSA hSB in
theorem Re{c:Nat}{S:List Plc × MD}{r:ArP}(h:BOk S.2 S.1.length c)(hl:S.2.n=S.1.length)(hk:S.2.kind=A.kind)(hr:OkAr A r):BOk (addP n S r).2 (addP n S r).1.length (c+1)/\(addP n S r).2.n=(addP n S r).1.length/\(addP n S r).2.kind=A.kind:=by
 have hlen:=Ga hl r.2.2.2;have hkn:(numP S r.2.2.2).2.kind=A.kind:=by unfold numP;split<;>exact hk
 have hb:BOk (numP S r.2.2.2).2 (numP S r.2.2.2).1.length c:=by
  unfold numP;split
  ·exact h
  exact(h.state (.inl rfl) (by unfold smS;decide)).mono (by simp) nlr
 have hpos:posP S.1 r.2.2.2<(numP S r.2.2.2).1.length:=by
  unfold numP;split
  ·rename_i hx;exact Il hx
  rename_i hx;rw[Gi hx];simp
 exact⟨hb.put hr.1 hr.2.1 ⟨by omega,by omega⟩ (by rw[hkn];exact hr.2.2.1) hr.2.2.2,hlen,hkn⟩
omit hB hkk hSA hSB in
theorem LI{n:Nat}:∀(L:List ArP) {c:Nat} {S:List Plc × MD},BOk S.2 S.1.length c->S.2.n=S.1.length->S.2.kind=A.kind->(∀r ∈ L,OkAr A r)->BOk (addL n S L).2 (addL n S L).1.length (c+L.length)/\(addL n S L).2.n=(addL n S L).1.length/\(addL n S L).2.kind=A.kind
 | [],c,S,h,hl,hk,_=>⟨h,hl,hk⟩
 |r::t,c,S,h,hl,hk,hr=>by
  obtain⟨h1,h2,h3⟩:=Re (n:=n) hA h hl hk (hr r (by simp));obtain⟨h4,h5,h6⟩:=LI t h1 h2 h3 (λr' hr'=>hr r' (by simp[hr']));exact⟨h4.mono nlr (by rw[List.length_cons];omega),h5,h6⟩
theorem JP{al:Nat->Bool}:∀n,n<=(itP A B al n).1.length->(∀i p q f,i<n->(itP A B al n).1[i]?=some (p,q,f)->PrOk A B p q)->BOk (itP A B al n).2 (itP A B al n).1.length (acP A B al n)/\(itP A B al n).2.n=(itP A B al n).1.length/\(itP A B al n).2.kind=A.kind
 |0,_,_=>⟨(BOk.empty A.kind 0 (tmS A A.lead B.lead) 1).state (.inl rfl) (by unfold smS;decide),rfl,rfl⟩
 |n+1,hn,hP=>by
  have hn':n<(itP A B al n).1.length:=by
   rcases Nat.lt_or_ge n (itP A B al n).1.length with h|h
   ·exact h
   have e:itP A B al (n+1)=itP A B al n:=Ff (A:=A) (B:=B) (al:=al) h 1;rw[e]at hn;omega
  obtain⟨x,hx⟩:∃x,(itP A B al n).1[n]?=some x:=⟨_,List.getElem?_eq_getElem hn'⟩;obtain⟨p,q,f⟩:=x;obtain⟨k,hk⟩:=hA.kk;obtain⟨hj,_⟩:=Jp.it (k:=k) (al:=al) hA hB n (by omega);obtain⟨hp,hq⟩:=hj.ok _ (List.mem_of_getElem? hx)
  dsimp only at hp hq
  have e:itP A B al (n+1)=addL n ((itP A B al n).1,finP A B p q n (itP A B al n).2) (arL A B (al p) p q f):=by
   show BX A B al n (itP A B al n)=_;unfold BX;rw[hx]
  have hkeep:∀(L:List ArP) (T:List Plc × MD),∃m,(addL n T L).1=T.1++m:=λL=>by
   induction L with
   |nil=>intro T;exact⟨[],by simp[addL]⟩
   |cons r t ih =>
    intro T;obtain⟨m,hm⟩:=ih<|addP n T r;obtain⟨m',hm'⟩:=Gb T r.2.2.2;exact⟨m'++m,by show (addL n (addP n T r) t).1=_;rw[hm];show (numP T r.2.2.2).1++m=_;rw[hm',List.append_assoc]⟩
  obtain⟨m,hm⟩:=hkeep (arL A B (al p) p q f) ((itP A B al n).1,finP A B p q n (itP A B al n).2);have hm2:(itP A B al (n+1)).1=(itP A B al n).1++m:=by rw[e];exact hm
  have hP':∀i p q f,i<n+1->(itP A B al n).1[i]?=some (p,q,f)->PrOk A B p q:=λi p' q' f' hi hx'=>hP i p' q' f' hi (by rw[hm2,List.getElem?_append_left (by omega)];exact hx');obtain⟨h1,h2,h3⟩:=JP n (by omega) (λi p' q' f' hi=>hP' i p' q' f' (by omega));have hPn:=hP' n p q f (by omega) hx;have hf:BOk (finP A B p q n (itP A B al n).2) (itP A B al n).1.length (acP A B al n):=by
   unfold finP;split
   ·exact h1
   rename_i hne;refine h1.setFin (.inr ?_) (GC _ _ _);rw[h3];have e1:A.fin p≠⟨#[]⟩:=λe=>hne (.inl e);have e2:B.fin q≠⟨#[]⟩:=λe=>hne (.inr e);exact IM hA hB hk hkk ((hA.fin p hp).resolve_left e1) ((hB.fin q hq).resolve_left e2) (hPn.1 e1 e2)
  have hfn:(finP A B p q n (itP A B al n).2).n=(itP A B al n).1.length:=by rw[(Hn _).1];exact h2
  have hfk:(finP A B p q n (itP A B al n).2).kind=A.kind:=by unfold finP;split<;>exact h3
  obtain⟨h4,h5,h6⟩:=LI (n:=n) hA (arL A B (al p) p q f) (S:=((itP A B al n).1,finP A B p q n (itP A B al n).2)) hf hfn hfk (Ru hA hB hkk hSA hSB hp hq hPn);rw[<-e]at h4 h5 h6;have ea:acP A B al (n+1)=acP A B al n+(arL A B (al p) p q f).length:=by
   show _+(match (itP A B al n).1[n]? with|none=>0|some (p,q,f)=>(arL A B (al p) p q f).length)=_
   rw[hx]
  rw[ea];exact⟨h4,h5,h6⟩
theorem CmpIs.vm{al:Nat->Bool}{n:Nat}{M:MD}(h:CmpIs A B al n M):VM M/\MSz M/\M.kind=A.kind/\M.start=0/\M.lead=tmS A A.lead B.lead/\M.n=n:=by
 obtain⟨k,u⟩:=hA.kk;have z:=h.len;obtain⟨p,_⟩:=Jp.it (k:=k) (al:=al) hA hB n (by omega);obtain⟨j,c,s⟩:=JP hA hB hkk hSA hSB (al:=al) n (by omega) h.pr;rw[<-h.eq]at j c s;obtain⟨g,l,i⟩:=p.hd;rw[<-h.eq]at g l i;rw[z]at j c;have C:(0:Nat)<n:=by
  have m:=p.st
  rcases Nat.eq_zero_or_pos n with o|o
  ·rw[List.getElem?_eq_none (by omega)]at m;cases m
  exact o
 have d:Aw M.kind=true:=by rw[g];exact hA.kind
 refine⟨BOk.vm (by rw[c];exact j) d (by omega) (by have:=h.n3;omega) (by rw[l,c];omega) (by rw[i,g];exact IM hA hB u hkk hA.lead hB.lead h.lead) h.a3,BOk.msz j d (by have:=h.n3;omega) (by rw[i];exact GC _ _ _) (by have:=h.a3;omega),g,l,i,c⟩
end
end
section
open Go CSR
variable{A B M:MD}{n:Nat}{k:KK}
section
variable{A B M:MD}(hA:VM A)(hB:VM B)(hkk:A.kind=B.kind)(hSA:MSz A)(hSB:MSz B){al:Nat->Bool}(hal:∀p,al p=true\/∀k,k<A.na p->A.aout p k≠0){n:Nat}(h:CmpIs A B al n M){k:KK}(hk:k.1=A.kind)
include hA hB hkk hSA hSB hal h hk
theorem CmpIs.cmp(x y:List Int):IsCmp 500 (rel (rmOf k A)) (rel (rmOf k B)) x y (rel (rmOf k M) x y):=by
 have g:=Mu (k:=k) hA hB hk hkk (al:=al) hal h.len h.lead (λp q f o=>by
  obtain⟨i,hi,e⟩:=List.getElem_of_mem o;exact h.pr i p q f (by rw[h.len]at hi;exact hi) (by rw[List.getElem?_eq_getElem hi,e]))
 obtain⟨l,_,_⟩:=h.vm hA hB hkk hSA hSB;rw[<-h.eq]at g;refine g.rel (m:=500) (λp d s hd j=>?_) (hA.inn k) (hB.inn k) (l.inn k) x y;have c:=hA.arc p d s hd;have u:A.aout p d≠0:=j;have z:=c.o0;have C:=c.o1;exact⟨(A.aout p d-1).toNat,by omega,by show A.aout p d=_;omega⟩
end
structure CmpIr(A B:MD)(n:Nat)(M:MD):Prop where
 len:(itP A B (λ_=>true) n).1.length=n
 eq:M=(itP A B (λ_=>true) n).2
 lead:(Ae A.kind A.lead B.lead).2=0
 pr:∀i p q f,i<n->(itP A B (λ_=>true) n).1[i]?=some (p,q,f)->PrOk A B p q
theorem CmpIr.cmp(c:VM A)(l:VM B)(u:VM M)(g:A.kind=B.kind)(h:CmpIr A B n M)(z:k.1=A.kind)(x y:List Int):IsCmp 500 (rel (rmOf k A)) (rel (rmOf k B)) x y (rel (rmOf k M) x y):=by
 have o:=Mu (k:=k) c l z g (al:=λ_=>true) (λ_=>.inl rfl) h.len h.lead (λp q f C=>by
  obtain⟨i,hi,e⟩:=List.getElem_of_mem C;exact h.pr i p q f (by rw[h.len]at hi;exact hi) (by rw[List.getElem?_eq_getElem hi,e]))
 rw[<-h.eq]at o;refine o.rel (m:=500) (λp d D hd s=>?_) (c.inn k) (l.inn k) (u.inn k) x y;have j:=c.arc p d D hd;have E:A.aout p d≠0:=s;have F:=j.o0;have G:=j.o1;exact⟨(A.aout p d-1).toNat,by omega,by show A.aout p d=_;omega⟩
theorem Sx{M':MD}(j:VM A)(l:VM B)(d:VM M')(c:A.kind=B.kind)(g:MSz A)(i:MSz B){p:Nat}(h:CmpIs A B (alF A) n M)(o:CmpIr A B p M')(m:k.1=A.kind)(x y:List Int):rel (rmOf k M) x y=rel (rmOf k M') x y :=
 (h.cmp j l c g i (LQ A) m x y).eq (o.cmp j l d c m x y)
end
section
open Go.RowKit Go.Deep
variable{w:World}{B:Nat}{sv:Value}{D:MD}{R:Nat->Value}
def OwM.box4{rb:Nat}{a0 m o a3:Value}(h:OwM w B sv D R)(hb:w.heap[rb]?=some (.cells #[a0,m,o,a3] 25 (0,0)))(g j k l:Value):
  OwM ((((w.setCell (Ad rb 0) g).setCell (Ad rb 1) j).setCell (Ad rb 2) k).setCell (Ad rb 3) l) B sv D R :=
 have d:=Ap h.top hb (by decide);have c:=λi (hi:i<D.n)=>Ap (h.row i hi) hb (by decide)
 (((h.other (p:=(Ad rb 0)) d c g).other (p:=(Ad rb 1)) d c j).other (p:=(Ad rb 2)) d c k).other (p:=(Ad rb 3)) d c l
def CJ{c:Nat}(h:OwM w B sv D R)(o:c<=B):OwM w c sv D R :=
 have j:∀{e:TypeId} {s n:Nat} {v:Value} {xs:List Value},w.ownsRow B e s v n xs->w.ownsRow c e s v n xs:=λh=>⟨h.1,h.2.imp id (λ⟨g,d,cur,k,l,m⟩=>⟨g,d,cur,k,Nat.le_trans o l,m⟩)⟩
 ⟨j h.top,λi hi=>j (h.row i hi),h.apart⟩
def OwM.ma{w':World}(h:OwM w B sv D R)(hb:Below w.heap.size w w'):Ma none w' (.agg #[.int .i64 D.kind,.int .i64 D.start,.string D.lead,sv]) D:=⟨sv,rfl,h.sts.kept (Ab hb none)⟩
variable{F:Nat->Prop}{db:Nat}{one:ByteArray}{fl g:Int}
def BlS(F:Nat->Prop)(B db:Nat)(D:MD)(one:ByteArray)(ac fl:Int)(w:World):Prop:=∃R sv,Bld w B db D R sv one ac fl/\∀b,F b->b≠db/\Fre w sv R D.n b
def BlN(F:Nat->Prop)(B db:Nat)(D:MD)(one:ByteArray)(ac fl:Int)(w w':World):Prop:=BlS F B db D one ac fl w'/\(∀b,F b->w'.heap[b]?=w.heap[b]?)/\Below B w w'
theorem BlN.trans{F:Nat->Prop}{B db:Nat}{D i:MD}{one:ByteArray}{k fl c d:Int}{w w' j:World}(h:BlN F B db D one k fl w w')(g:BlN F B db i one c d w' j):BlN F B db i one c d w j :=
 ⟨g.1,λb hb=>(g.2.1 b hb).trans (h.2.1 b hb),h.2.2.trans g.2.2⟩
theorem BlS.lt{F:Nat->Prop}{B db:Nat}{D:MD}{one:ByteArray}{d fl:Int}{w:World}(h:BlS F B db D one d fl w):db<w.heap.size/\B<=db/\∀b,F b->b<w.heap.size:=by
 obtain⟨R,sv,c,g⟩:=h;exact⟨c.lt,c.low,λb hb=>(g b hb).2.1⟩
theorem BlS.kept{F:Nat->Prop}{B db:Nat}{D:MD}{one:ByteArray}{i fl:Int}{w w':World}(h:BlS F B db D one i fl w)(hb:Below w.heap.size w w'):BlS F B db D one i fl w':=by
 obtain⟨R,sv,c,d⟩:=h;exact⟨R,sv,⟨(hb.block _ c.lt).trans c.blk,c.own.kept (Ab hb none) (by simp),c.low⟩,λb g=>⟨(d b g).1,Nat.lt_of_lt_of_le (d b g).2.1 hb.size,(d b g).2.2⟩⟩
def Mi(f:ByteArray)(w:World)(h:BlS F B db D one g fl w)(p:B<=w.heap.size)(hn:D.n<=100000):
  Calls prog 111 #[.pointer (some (Ad db 0)),.string f] w (λr w'=>r=.returned (.int .i64 (D.n:Int))/\BlN F B db (D.state f) one g fl w w'):=by
 obtain⟨R,sv,l,c⟩:=h;refine(RR f w l p hn).mono λr w' j=>⟨j.1,?_⟩;obtain⟨⟨k,d,m,i⟩,o⟩:=j.2;exact⟨⟨k,d,m,λb hb=>⟨(c b hb).1,(i b (c b hb).1 (c b hb).2).1⟩⟩,λb hb=>(i b (c b hb).1 (c b hb).2).2,o⟩
def RE{q:Nat}(a b t:Int)(x:ByteArray)(w:World)(h:BlS F B db D one g fl w)(d:0<=g)(i:g<=100000)(z:B<=w.heap.size)(A:q<D.n)(hn:D.n<=100000)(j:D.na q<=100000):
  Calls prog 112 #[.pointer (some (Ad db 0)),.int .i64 (q:Int),.agg #[.int .i64 a,.int .i64 b,.string x,.int .i64 t]] w (λr w'=>r=.returned (.tuple #[])/\BlN F B db (D.arc q a b x t) one (g+1) fl w w'):=by
 obtain⟨R,sv,p,c⟩:=h;refine(RF a b t x w p d i z A hn j).mono λr w' m=>⟨m.1,?_⟩;obtain⟨⟨o,k,s,l⟩,u⟩:=m.2;exact⟨⟨o,k,s,λb hb=>⟨(c b hb).1,(l b (c b hb).1 (c b hb).2).1⟩⟩,λb hb=>(l b (c b hb).1 (c b hb).2).2,u⟩
def RQ(k:Int)(w:World):Calls prog 110 #[.int .i64 k] w (λr w'=>∃db,r=.returned (.pointer (some (Ad db 0)))/\BlS (λ_=>False) w.heap.size db (AV k 0 (oneF k)) (oneF k) 0 0 w'/\Below w.heap.size w w'/\w.heap.size<=db):=by
 go_enter func110,ntmps110
 go_wp2_with fail
 refine(Gt k w).mono ?_;rintro r j⟨rfl,c⟩;have d:=c.alloc c.size (.cells (bcs (AV k 0 (oneF k)) (.slice none 0 0) (oneF k) 0 0) 144);have i:=c.size;have g:BlS (λ_=>False) w.heap.size j.heap.size (AV k 0 (oneF k)) (oneF k) 0 0 (j.alloc (.cells (bcs (AV k 0 (oneF k)) (.slice none 0 0) (oneF k) 0 0) 144)) :=
  ⟨λ_=>.slice none 0 0,.slice none 0 0,⟨han j _,OwM.empty _ _ _ _ _ _,i⟩,λ_ h=>h.elim⟩
 replace d:=qh d;clear c;replace g:=qh g;go_wp2;go_ret;exact⟨_,rfl,g.o,d.o,i⟩
def BlN.refl{c:Int}{w:World}(h:BlS F B db D one c fl w):BlN F B db D one c fl w w:=⟨h,λ_ _=>rfl,blr⟩
end
section
open Go.RowKit Go.Deep
variable{F:Nat->Prop}{B db:Nat}{D:MD}{one:ByteArray}{d fl:Int}{w:World}
def dnOk(fl:Int)(n:Nat)(ac:Int):Prop:=fl=0/\n<=3000/\ac<=30000
def DnE(B:Nat)(D:MD)(ok:Prop)(w:World)(r:Ending)(w':World):Prop :=
 Below w.heap.size w w'/\((ok/\∃sv R,r=.returned (.tuple #[.agg #[.int .i64 D.kind,.int .i64 D.start,.string D.lead,sv],.int .i64 0])/\OwM w' B sv D R)\/(¬ok/\r=.returned (.tuple #[AF,.int .i64 2])))
def RI(w:World)(h:BlS F B db D one d fl w)(hn:D.n<=100000)(a1:d<=1000000)(L:0<=d):
  Calls prog 114 #[.pointer (some (Ad db 0))] w (DnE B D (dnOk fl D.n d) w):=by
 obtain⟨R,sv,j,Z⟩:=h;obtain⟨sa,sc,K,_,_⟩:=Ax j.own.top;subst K;obtain⟨s,i⟩:=exq<|w.alloc (.cells #[.int .i64 0,.int .i64 0,.string ⟨#[]⟩,.slice none 0 0] 25);obtain⟨H,G⟩:=exq<|w.heap.size;have m:Fr (λ_=>False) w s:=by rw[i];exact Fr.alloc _ _
 have o:s.heap[H]?=some (.cells #[.int .i64 0,.int .i64 0,.string ⟨#[]⟩,.slice none 0 0] 25 (0,0)):=by rw[i,G];exact han w _
 have c:=(m.block _ j.lt (λe=>e)).trans j.blk;have l:Below w.heap.size w s:=m.below nlr (λ_ e=>e.elim);have E:OwM s B (.slice sa D.n sc) D R:=j.own.kept (Ab l none) (by simp);have a4:w.heap.size<=H:=by omega
 have a2:db≠H:=by have:=j.lt;omega
 have N:=BlkB.c0 c;have O:=BlkB.c1 c;have P:=BlkB.c2 c;have Q:=BlkB.c3 c;have S:=BlkB.c5 c;have T:=BlkB.c6 c;rw[i]at N O P Q S T;obtain⟨⟨r0,r1,r2,r3⟩,I⟩:=cells4 o;have U:=I 0;have W:=I 1;have X:=I 2;have Y:=I 3;clear I;rw[i,G]at r0 r1 r2 r3 U W X Y;have a5:((D.n:Nat):Int)<=100000:=by omega
 replace o:=qh o;replace l:=qh l;replace E:=qh E;replace j:=qh j;clear Z;replace c:=qh c;clear m;by_cases A:fl=0
 ·subst A;by_cases p:D.n<=3000;have C:decide ((3000:Int)<(D.n:Int))=false:=by simp;omega
  by_cases k:d<=30000
  ·have u:decide ((30000:Int)<d)=false:=by simp;omega
   have J:=qh<|show dnOk 0 D.n d from ⟨rfl,p,k⟩
   go_enter func114,ntmps114
   go_wp2_with fail
   exact bodyPost_ret (AE rfl _ (b:=w.heap.size) rfl rfl (han w _)) rfl ⟨(Below.refl _ w).alloc nlr _,.inl ⟨J.o,_,R,rfl,j.o.own.kept (z:=none) (World.grownBy_alloc _ _ _) (by simp)⟩⟩
  have u:(30000:Int)<d:=by omega
  have g:=qh<|show ¬dnOk 0 D.n d from λh=>k h.2.2;clear k
  rotate_left
  have C:(3000:Int)<(D.n:Int):=by omega
  have g:=qh<|show ¬dnOk 0 D.n d from λh=>p h.2.1;clear p
  all_goals
   go_enter func114,ntmps114
   go_wp2_with fail
   exact bodyPost_ret (AE rfl _ (b:=w.heap.size) rfl rfl (han w _)) rfl ⟨(Below.refl _ w).alloc nlr _,.inr ⟨g.o,rfl⟩⟩
 have g:=qh<|show ¬dnOk fl D.n d from λh=>A h.1
 go_enter func114,ntmps114
 go_wp2_with fail
 exact bodyPost_ret (AE rfl _ (b:=w.heap.size) rfl rfl (han w _)) rfl ⟨(Below.refl _ w).alloc nlr _,.inr ⟨g.o,rfl⟩⟩
def BlS.old(h:BlS F B db D one d fl w)(j:B<=w.heap.size):BlS (λb=>b<B) B db D one d fl w:=by
 obtain⟨R,sv,c,g⟩:=h;refine⟨R,sv,c,λb hb=>⟨by have:=c.low;omega,by omega,λe=>?_,λi hi e=>?_⟩⟩
 ·have:=(World.ownsRow.lt c.own.top b e).1;omega
 have:=(World.ownsRow.lt (c.own.row i hi) b e).1;omega
section
variable{w:World}{db:Nat}{D:MD}{sv:Value}{one:ByteArray}{ac fl:Int}{t:TypeId}(h:w.heap[db]?=some (.cells (bcs D sv one ac fl) t (0,0)))
include h
theorem BlkB.set2(s:ByteArray):(w.setCell (Ad db 2) (.string s)).heap[db]?=some (.cells (bcs { D with lead:=s } sv one ac fl) t (0,0)):=by
 unfold bcs at h ⊢;simp[World.setCell,Array.getElem?_modify,h]
end
theorem BlS.lead{j:Int}(h:BlS F B db D one j fl w)(s:ByteArray):BlS F B db { D with lead:=s } one j fl (w.setCell (Ad db 2) (.string s)):=by
 obtain⟨R,sv,c,d⟩:=h;have g:=c.own.other (p:=(Ad db 2)) (Ap c.own.top c.blk (by decide)) (λi hi=>Ap (c.own.row i hi) c.blk (by decide)) (.string s);exact⟨R,sv,⟨BlkB.set2 c.blk s,⟨g.top,g.row,g.apart⟩,c.low⟩,λb hb=>⟨(d b hb).1,by rw[nblk_setCell];exact(d b hb).2.1,(d b hb).2.2⟩⟩
theorem BlS.cells(h:BlS F B db D one d fl w):(∃v,w.cell? (Ad db 1)=some (.int .i64 v))/\w.cell? (Ad db 2)=some (.string D.lead)/\∀j,w.frozen? (Ad db j)=false:=by
 obtain⟨R,sv,c,g⟩:=h;exact⟨⟨_,BlkB.c1 c.blk⟩,BlkB.c2 c.blk,BlkB.fz c.blk⟩
end
section
open Go.RowKit Go.Deep
variable{x:Nat->Int}{n:Nat}{v:Value}
def TC:∀args w,(callFunc 153 args).run prog w=.ok (.enter 153 args) w:=λargs w=>by kernel_rfl
def RS(w:World)(s:Int):Calls prog 154 #[.int .i64 s] w (λr w'=>r=.returned (.bool (!offI 500 s))/\w'=w):=by
 by_cases g:1<=s
 ·go_enter func154,ntmps154
  go_wp2;go_ret;exact⟨AJ (by
   unfold offI;rw[show decide (s<1)=false by simp;omega];by_cases c:s<=500
   ·simp[c]
   simp[c];omega),rfl⟩
 have d:decide (1<=s)=false:=by simp;omega
 go_enter func154,ntmps154
 go_wp2;go_ret;exact⟨AJ (by unfold offI;rw[show decide (s<1)=true by simp;omega];rfl),rfl⟩
def RY(w:World)(s:Int):Calls prog 153 #[.int .i64 s] w (λr w'=>r=.returned (.bool (offI 500 s))/\w'=w):=by
 have c:=qh<|RS w s
 go_enter func153,ntmps153
 go_wp2_with fail
 refine c.o.mono ?_;rintro r d⟨rfl,rfl⟩;go_wp2;go_ret;exact⟨AJ (by simp),rfl⟩
def Ji(w:World)(d:Si none w v n x)(hn:(n:Int)<=9223372036854775807):
  Calls prog 109 #[v] w (λr w'=>r=.returned (.bool (isWord n x))/\w'=w):=by
 have c:=SC w d hn (show TstF 153 #[] (offI 500) w from ⟨TC,λs=>by
  rw[show ∀a:Value,(#[a]++#[]:Array Value)=#[a] from λ_=>rfl];exact RY w s⟩)
 obtain⟨a,g,rfl⟩:=d.shape;replace c:=qh c;clear d;by_cases h:(n:Int)<=200
 ·go_enter func109,ntmps109
  go_wp2_with fail
  refine c.o.mono ?_;rintro r j⟨rfl,rfl⟩;go_wp2;go_ret;exact⟨AJ (by unfold isWord DO;rw[show decide (n<=200)=true by simp;omega];simp),rfl⟩
 have i:decide ((n:Int)<=200)=false:=by simp;omega
 go_enter func109,ntmps109
 go_wp2;go_ret;exact⟨AJ (by unfold isWord;rw[show decide (n<=200)=false by simp;omega];rfl),rfl⟩
def Me{i:Nat}(w:World)(j:Si none w v n x):Calls prog 113 #[v,.int .i64 (i:Int)] w (λr w'=>r=.returned (.int .i64 (atW n x i))/\w'=w):=by
 obtain⟨a,l,b,s,rfl,g,u,m,hb,c⟩:=j.open;unfold maxLen at m;by_cases h:i<n
 ·have o:(i:Int)<(n:Int):=by omega
  have p:(0:Int)<=(i:Int):=by omega
  obtain rfl:=g (by omega);have c0:=c i h;have e:atW n x i=x i:=ifp h;rw[e];obtain⟨k,d⟩:=exq<|x i;rw[<-d]at c0;rw[<-d];clear c j hb g e d
  go_enter func113,ntmps113
  go_wp2;go_ret;exact⟨rfl,rfl⟩
 have o:¬((i:Int)<(n:Int)):=by omega
 have e:atW n x i=0:=ifn h;rw[e];clear c j hb g e
 go_enter func113,ntmps113
 go_wp2;go_ret;exact⟨rfl,rfl⟩
theorem CS(kind:Int)(na:Nat)(x:Nat->Int)(nb:Nat)(y:Nat->Int)(v:ByteArray):∀i,(AR kind na x nb y v i).n=i+1
 |0=>rfl
 |i+1=>by
  show (AR kind na x nb y v i).n+1=_;rw[CS kind na x nb y v i]
theorem QK(kind:Int)(na:Nat)(x:Nat->Int)(nb:Nat)(y:Nat->Int)(v:ByteArray):∀i p,(AR kind na x nb y v i).na p<=i
 |0,p=>by show (if p=0 then 0 else 0)<=0;split<;>omega
 |i+1,p=>by
  have h1:=QK kind na x nb y v i;show (if p=i then (if i=(AR kind na x nb y v i).n then 0 else (AR kind na x nb y v i).na i)+1 else (if p=(AR kind na x nb y v i).n then 0 else (AR kind na x nb y v i).na p))<=i+1
  have h2:=h1 i;have h3:=h1 p
  split<;>split<;>omega
theorem GL(kind:Int)(na:Nat)(x:Nat->Int)(nb:Nat)(y:Nat->Int)(v:ByteArray):∀i,(AR kind na x nb y v i).kind=kind/\(AR kind na x nb y v i).start=0/\(AR kind na x nb y v i).lead=v
 |0=>⟨rfl,rfl,rfl⟩
 |i+1=>GL kind na x nb y v i
def YY(kind:Int)(na:Nat)(x:Nat->Int)(nb:Nat)(y:Nat->Int)(v:ByteArray):Prop:=isWord na x=true/\isWord nb y=true/\Am kind v=true
theorem Bld.c4{w:World}{B db:Nat}{D:MD}{R:Nat->Value}{sv:Value}{one:ByteArray}{c fl:Int}(h:Bld w B db D R sv one c fl):w.cell? (Ad db 4)=some (.string one):=BlkB.c4 h.blk
theorem BlS.one{F:Nat->Prop}{B db:Nat}{D:MD}{one:ByteArray}{c fl:Int}{w:World}(h:BlS F B db D one c fl w):w.cell? (Ad db 4)=some (.string one):=by
 obtain⟨R,sv,d,g⟩:=h;exact d.c4
def Jd{kind:Int}{xv yv:Value}{na nb:Nat}{y:Nat->Int}{v:ByteArray}(w:World)(hx:Si none w xv na x)(hy:Si none w yv nb y)(j0:(na:Int)<=9223372036854775807)(j1:(nb:Int)<=9223372036854775807)(hv:smS v)(ht:Tab w)(Y:YY kind na x nb y v):
  Calls prog 59 #[.int .i64 kind,xv,yv,.string v] w (λr w'=>Below w.heap.size w w'/\∃sv R,r=.returned (.tuple #[.agg #[.int .i64 kind,.int .i64 0,.string v,sv],.int .i64 0])/\OwM w' w.heap.size sv (Cs kind na x nb y v) R):=by
 obtain⟨ax,cx,rfl⟩:=hx.shape;obtain⟨ay,cy,rfl⟩:=hy.shape;obtain⟨a5,a6,h6⟩:=Y;have j5:na<=200:=by unfold isWord at a5;simp at a5;exact a5.1
 have j6:nb<=200:=by unfold isWord at a6;simp at a6;exact a6.1
 obtain⟨w1,b2⟩:=exq<|w.alloc (.cells #[.int .i64 0,.int .i64 0,.string ⟨#[]⟩,.slice none 0 0] 25);obtain⟨rb,e5⟩:=exq<|w.heap.size;have O:Below w.heap.size w w1:=by rw[b2];exact(Below.refl _ w).alloc nlr _
 have g9:w1.heap[rb]?=some (.cells #[.int .i64 0,.int .i64 0,.string ⟨#[]⟩,.slice none 0 0] 25 (0,0)):=by rw[b2,e5];exact han w _
 have i9:w.heap.size<=rb:=by omega
 have b0:∀W,Below w.heap.size w W->Si none W (.slice ax na cx) na x:=λW h=>hx.kept (Ab h none);have b1:∀W,Below w.heap.size w W->Si none W (.slice ay nb cy) nb y:=λW h=>hy.kept (Ab h none);have d8:=qh<|Ji w1 (b0 w1 O) j0;have d9:=qh<|Ji w1 (b1 w1 O) j1;have e8:=Iz kind v w1 hv (ht.below O nlr);rw[h6]at e8;rw[a5]at d8;rw[a6]at d9;have g2:=qh e8;clear e8 a5 a6 h6 ht;replace b0:=qh b0;clear hx;replace b1:=qh b1;clear hy;have d6:=qh O;clear O;have d7:=qh g9;clear g9
 go_enter func59,ntmps59
 go_wp2_with fail
 rw[<-b2,<-e5];clear b2 e5;refine d8.o.mono ?_;rintro r k9⟨rfl,rfl⟩
 go_wp2_with fail
 refine d9.o.mono ?_;rintro r j7⟨rfl,rfl⟩
 go_wp2_with fail
 refine g2.o.mono ?_;rintro r w2⟨rfl,e0⟩;have u:=d6.o.trans<|e0.mono d6.o.size;have a8:=(e0.block _ (lbk d7.o)).trans d7.o;have b7:=qh<|RQ kind w2;replace u:=qh u;clear e0 d6 d8 d9 g2;replace a8:=qh a8;clear d7
 go_wp2_with fail
 refine b7.o.mono ?_;rintro r w3⟨H,rfl,e1,Q,g8⟩;obtain⟨B,c⟩:=exq<|w2.heap.size;rw[<-c]at e1 Q g8;have e7:w.heap.size<=B:=by rw[c];exact u.o.size
 have i3:B<=w3.heap.size:=by rw[c];rw[c]at Q;exact Q.size
 have S:=e1.old i3;obtain⟨⟨v1,h8⟩,h9,g3⟩:=S.cells;have i2:=g3 2;clear g3 h8;obtain⟨w4,b3⟩:=exq<|w3.setCell ⟨H,2,none⟩ (.string v);have b8:BlS (λb=>b<B) B H (AV kind 0 v) (oneF kind) 0 0 w4:=by rw[b3];exact S.lead v
 have E:Below B w2 w4:=by rw[b3];exact Q.setCell (p:=(Ad H 2)) g8 _
 have i4:B<=w4.heap.size:=by rw[c];rw[c]at E;exact E.size
 have I:=qh (Mi ⟨#[]⟩ w4 b8 i4 (by show 0<=100000;omega));have b5:=qh E;clear E Q e1 S b8 b7;replace c:=qh c
 go_wp2_with fail
 rw[<-b3];clear b3 h9 i2;refine I.o.mono ?_;rintro r w5⟨rfl,a9⟩;have h3:(AV kind 0 v).state ⟨#[]⟩=AR kind na x nb y v 0:=rfl;rw[h3]at a9;have b9:BlN (λb=>b<B) B H (AR kind na x nb y v 0) (oneF kind) ((0:Nat):Int) 0 w5 w5:=BlN.refl a9.1;have z:=b5.o.trans a9.2.2;have b6:=qh b9;clear b9 a9 h3 I;replace z:=qh z;clear b5;obtain⟨m,hm⟩:=exq<|max na nb;have k6:m<=200:=by omega
 have h0:max (na:Int) (nb:Int)=(m:Int):=by omega
 replace hm:=qh hm
 go_wp2_with fail
 clear h0
 go_loopw [11,43] (λj2 f5 wr=>∃i:Nat,i<=m/\j2=.int .i64 (i:Int)/\f5=.int .i64 (i:Int)/\BlN (λb=>b<B) B H (AR kind na x nb y v i) (oneF kind) (i:Int) 0 w5 wr) (λ_ f5 _=>m-(intOf f5).toNat)
 case atStart=>exact⟨0,Nat.zero_le _,rfl,rfl,b6.o⟩
 obtain⟨i,hi,rfl,rfl,g7⟩:=hrel;clear b6;have G:=qh g7;clear g7;have T:=z.o.trans G.o.2.2;have g4:B<=wr.heap.size:=by rw[c.o];rw[c.o]at T;exact T.size
 have j9:B<=w5.heap.size:=by have h:=z.o;rw[c.o];rw[c.o]at h;exact h.size
 by_cases k5:i<m
 ·have k4:(i:Int)<(m:Int):=by omega
  have e6:=Mi ⟨#[]⟩ wr G.o.1 g4 (by rw[CS];omega);rw[CS]at e6;have I:=qh e6;clear e6 T
  go_wp2_with fail
  refine I.o.mono ?_;rintro r w6⟨rfl,h2⟩;obtain⟨o,D⟩:=exq<|w6.drew;have U:Fr (λ_=>False) w6 o:=by rw[D];exact(Fr.refl _ _).drew
  have j:Below w6.heap.size w6 o:=U.below nlr (λ_ e=>e.elim);have A:BlN (λb=>b<B) B H ((AR kind na x nb y v i).state ⟨#[]⟩) (oneF kind) (i:Int) 0 w5 o:=by
   have h1:=G.o.trans h2;exact⟨h1.1.kept j,λb hb=>(j.block b (h1.1.lt.2.2 b hb)).trans (h1.2.1 b hb),h1.2.2.trans (j.mono (by have:=h1.2.2.size;omega))⟩
  have l:Below B w2 o:=z.o.trans A.2.2;have N:Below w.heap.size w o:=u.o.trans<|l.mono e7;have c4:=A.1.one;have i5:B<=o.heap.size:=by rw[c.o];rw[c.o]at l;exact l.size
  have d2:=qh<|Me (i:=i) o (b0.o o N);have d5:=qh<|Me (i:=i) o (b1.o o N);have e4:((AR kind na x nb y v i).state ⟨#[]⟩).n=i+2:=by show (AR kind na x nb y v i).n+1=_;rw[CS]
  have d1:((AR kind na x nb y v i).state ⟨#[]⟩).na i<=100000:=by
   show (if i=(AR kind na x nb y v i).n then 0 else (AR kind na x nb y v i).na i)<=100000
   have:=QK kind na x nb y v i i
   split<;>omega
  have s:=RE (q:=i) (atW na x i) (atW nb y i) ((i+1:Nat):Int) (oneF kind) o A.1 (by omega) (by omega) i5 (by rw[e4];omega) (by rw[e4];omega) d1;rw[show ((AR kind na x nb y v i).state ⟨#[]⟩).arc i (atW na x i) (atW nb y i) (oneF kind) ((i+1:Nat):Int)=AR kind na x nb y v (i+1) from rfl,show (i:Int)+1=((i+1:Nat):Int) by omega]at s;obtain⟨on,C⟩:=exq<|oneF kind;rw[<-C]at c4 s;obtain⟨xi,e9⟩:=exq<|atW na x i;obtain⟨yi,f4⟩:=exq<|atW nb y i;rw[<-e9,<-f4]at s;rw[<-e9]at d2;rw[<-f4]at d5;have f9:=qh C;clear C;clear e9 f4;have b4:=qh s;clear s;have f8:=qh A;clear A h2 I G U j e4 d1 l N
  go_wp2_with fail
  refine AB (λwk=>wk.cell? (Ad H 4)=some (.string on)) 14 (by kernel_rfl) ?_;rw[<-D];clear D;refine Aa.tm 0 c4 ?_;refine Aa.tm 1 c4 ?_;refine Aa.tm 2 c4 ?_;refine Aa.tm 3 c4 ?_;refine Aa.tm 5 c4 ?_;refine Aa.tm 6 c4 ?_;refine Aa.tm 8 c4 ?_;refine Aa.tm 9 c4 ?_;refine Aa.tm 10 c4 ?_;refine Aa.tm 11 c4 ?_;refine Aa.tm 12 c4 ?_
  try simp only[Act.put,tryL]
  refine Aa.on 4 λK J=>?_;go_simp;refine d2.o.mono ?_;rintro r l0⟨rfl,rfl⟩;refine J.out _ _ (.inr c4) ?_;clear J K
  try simp only[Act.put,tryL]
  refine Aa.on 7 λK J=>?_;go_simp;refine d5.o.mono ?_;rintro r j8⟨rfl,rfl⟩;refine J.out _ _ (.inr c4) ?_;clear J K
  try simp only[Act.put,tryL]
  refine Aa.tm 13 c4 ?_
  try simp only[Act.put,tryL]
  refine Aa.on 14 λK J=>?_;go_simp;refine b4.o.mono ?_;rintro r w7⟨rfl,e3⟩;refine J.out _ _ (.inl rfl) (Aa.dn ?_);clear J K c4;rw[f9.o]at e3;have h7:=qh<|f8.o.trans e3;clear e3 b4 f8 d2 d5;go_wp2;go_roundw
  case rel=>exact⟨i+1,by omega,by go_num,by go_num,h7.o⟩
  simp[intOf];omega
 have i8:m=i:=by omega
 subst i8;have j3:¬((m:Int)<(m:Int)):=by omega
 obtain⟨o,D⟩:=exq<|wr.drew;have U:Fr (λ_=>False) wr o:=by rw[D];exact(Fr.refl _ _).drew
 have j:Below wr.heap.size wr o:=U.below nlr (λ_ e=>e.elim);have g6:=G.o.1.kept j;have l:Below B w2 o:=T.trans<|j.mono g4;obtain⟨R,sv,k,a7⟩:=g6;obtain⟨g,cp,rfl,i7,k0,_,_⟩:=DI k.own.top (by rw[CS];omega);have d3:=BlkB.c3 k.blk;have d4:=BlkB.c4 k.blk;have g0:=k.own.fin_cell (i:=m) (by rw[CS];omega);have fg:=EA k.own.top (m*2);have h4:=k.own.setFin (q:=m) (by rw[CS];omega) (oneF kind);rw[CS]at d3;have i6:H≠g:=λe=>Ap k.own.top k.blk (by decide) (by rw[e];rfl);obtain⟨w8,a1⟩:=exq<|o.setCell ⟨g,m*2,none⟩ (.string (oneF kind));have d0:BlS (λb=>b<B) B H (Cs kind na x nb y v) (oneF kind) (m:Int) 0 w8:=by
  have e:Cs kind na x nb y v=(AR kind na x nb y v m).setFin m (oneF kind):=by unfold Cs;rw[<-hm.o]
  rw[e,a1];refine⟨R,_,⟨by rw[AN i6];exact k.blk,h4,k.low⟩,λb hb=>⟨(a7 b hb).1,by rw[nblk_setCell];exact(a7 b hb).2.1,(a7 b hb).2.2⟩⟩
 have F:Below B w2 w8:=by rw[a1];exact l.setCell (p:=(Ad g (m*2))) i7 _
 have d:o.cell? (Ad H 3)=some (.slice (some (Ad g 0)) (m+1) cp)/\o.cell? (Ad H 4)=some (.string (oneF kind)):=⟨d3,d4⟩;have a4:(Cs kind na x nb y v).n=m+1:=by unfold Cs;rw[<-hm.o];exact CS kind na x nb y v m
 have a2:(Cs kind na x nb y v).kind=kind/\(Cs kind na x nb y v).start=0/\(Cs kind na x nb y v).lead=v:=by unfold Cs;exact GL kind na x nb y v _
 have e2:=RI w8 d0 (by rw[a4];omega) (by omega) (by omega);rw[a4]at e2;have f7:=qh e2;clear e2 d0;have h0:(m:Int)<(m:Int)+1:=by omega
 have j4:(0:Int)<=(m:Int):=by omega
 obtain⟨on,C⟩:=exq<|oneF kind;rw[<-C]at d a1;have f9:=qh C;clear C;replace F:=qh F;clear l T;replace a2:=qh a2;replace a4:=qh a4;clear d3 d4 k a7 h4 G U j
 go_wp2_with fail
 refine AB (λwk=>wk.cell? (Ad H 3)=some (.slice (some (Ad g 0)) (m+1) cp)/\wk.cell? (Ad H 4)=some (.string on)) 12 (by kernel_rfl) ?_;rw[<-D];clear D;refine Aa.tm 0 d ?_;refine Aa.tm 1 d ?_;refine Aa.tm 2 d ?_;refine Aa.tm 3 d ?_;refine Aa.tm 4 d ?_;refine Aa.tm 5 d ?_;refine Aa.tm 6 d ?_;refine Aa.tm 7 d ?_;refine Aa.tm 8 d ?_;refine Aa.tm 9 d ?_;refine Aa.tm 10 d ?_;refine Aa.tm 11 d ?_
 try simp only[Act.put,tryL]
 refine Aa.on 12 λK J=>?_;go_simp;refine J.out _ _ (.inl rfl) (Aa.dn ?_);clear J K d g0 fg;rw[<-a1];clear a1
 go_wp2_with fail
 refine f7.o.mono ?_;rintro r w9⟨g5,hr⟩;have P:Below B w2 w9:=F.o.trans (g5.mono (by have h:=F.o;rw[c.o];rw[c.o]at h;exact h.size));have X:=(P.block _ (by rw[c.o];exact lbk a8.o)).trans a8.o;have L:=u.o.trans<|P.mono e7;clear g5 P f7;replace L:=qh L;replace X:=qh X;obtain⟨⟨r0,r1,r2,r3⟩,rz⟩:=cells4 X.o;have f0:=rz 0;have f1:=rz 1;have f2:=rz 2;have f3:=rz 3;clear rz
 rcases hr with⟨Y,k7,R',rfl,Z⟩|⟨Y,rfl⟩
 rotate_left
 ·exact absurd (show dnOk 0 (m+1) (m:Int) from ⟨rfl,by omega,by omega⟩) Y
 rw[a2.o.1,a2.o.2.1,a2.o.2.2];obtain⟨sa,sc,h5,_,_⟩:=Ax Z.top;rw[a4.o]at h5;subst h5;have g1:=qh<|CJ (Z.box4 X.o (.int .i64 kind) (.int .i64 0) (.string v) (.slice sa (m+1) sc)) e7;clear Z Y
 go_wp2_with fail
 exact bodyPost_ret (AE rfl _ (b:=rb) rfl rfl (AA w9 rb _ _ _ _ X.o)) rfl ⟨Au L.o i9 _ _ _ _,_,R',rfl,g1.o⟩
variable{w:World}{b i:Nat}{c:Array Value}{t:TypeId}{f:Nat × Nat}{D:MD}{p:Nat->Prop}
def Bv{n:Nat}(h:w.heap[b]?=some (.cells c t f))(hn:n<=maxLen)(d:∀i,i<n->c[i]?=some (.int .i64 (x i))):Si none w (.slice (some (Ad b 0)) n n) n x :=
 .inr ⟨b,0,n,rfl,⟨lbk h,by simp⟩,nlr,hn,λi hi=>by rw[Nat.zero_add];exact cellOf h i (d i hi)⟩
def lt1(h:p 0):∀i,i<1->p i:=λi hi=>by
 have:i=0:=by omega
 subst this;exact h
def lt2(h:p 0)(c:p 1):∀i,i<2->p i:=λi hi=>by
 have:i=0\/i=1:=by omega
 rcases this with rfl|rfl<;>assumption
def Bf:1<=maxLen:=by unfold maxLen;omega
def EK:2<=maxLen:=by unfold maxLen;omega
def Dn(h:w.heap[b]?=some (.cells c t f))(hn:D.na i<=maxLen)
  (d:∀k,k<D.na i->c[k*4]?=some (.int .i64 (D.ain i k))/\c[k*4+1]?=some (.int .i64 (D.aout i k))/\c[k*4+2]?=some (.string (D.aw i k))/\c[k*4+3]?=some (.int .i64 (D.ato i k))):ArS none w (.slice (some (Ad b 0)) (D.na i) (D.na i)) D i :=
 .inr ⟨b,0,D.na i,rfl,⟨lbk h,by simp⟩,nlr,hn,λk g=>by
  obtain⟨c1,c2,c3,c4⟩:=d k g;rw[Nat.zero_add];exact⟨cellOf h _ c1,cellOf h _ c2,cellOf h _ c3,cellOf h _ c4⟩⟩
def Rz(w:World)(h:D.na i=0):ArS none w (.slice none 0 0) D i:=.inl ⟨h,none,0,rfl,Nat.zero_le _⟩
def Gy{A:Nat->Value}(h:w.heap[b]?=some (.cells c t f))(hn:D.n<=maxLen)
  (d:∀i,i<D.n->c[i*2]?=some (.string (D.fin i))/\c[i*2+1]?=some (A i)/\ArS none w (A i) D i):StS none w (.slice (some (Ad b 0)) D.n D.n) D :=
 .inr ⟨b,0,D.n,A,rfl,⟨lbk h,by simp⟩,nlr,hn,λi hi=>by
  obtain⟨c1,c2,c3⟩:=d i hi;rw[Nat.zero_add];exact⟨cellOf h _ c1,cellOf h _ c2,c3⟩⟩
theorem Lw{kind:Int}{na:Nat}{x:Nat->Int}{nb:Nat}{y:Nat->Int}{v:ByteArray}(hk:Aw kind=true)(hx:∀i,0<=atW na x i/\atW na x i<=500)(hy:∀i,0<=atW nb y i/\atW nb y i<=500){N:Nat}:∀i,i<N->BOk (AR kind na x nb y v i) N i
 |0,_=>(BOk.empty kind 0 v N).state (.inl rfl) nzl
 |i+1,hi=>by
  have ih:=Lw (v:=v) hk hx hy i (N:=N) (by omega);have hkk:((AR kind na x nb y v i).state ⟨#[]⟩).kind=kind:=(GL kind na x nb y v i).1;exact(ih.state (s:=⟨#[]⟩) (.inl rfl) nzl).put (hx i) (hy i) (by constructor<;>omega) (by rw[hkk];exact Ey hk) (Ex hk)
def YX{kind:Int}{na:Nat}{nb:Nat}{y:Nat->Int}{v:ByteArray}(c:Aw kind=true)(k:∀i,0<=atW na x i/\atW na x i<=500)(l:∀i,0<=atW nb y i/\atW nb y i<=500)(j:smS v)(hn:max na nb<=1000):MSz (Cs kind na x nb y v):=by
 have d:=(GL kind na x nb y v (max na nb));have g:=(Lw (v:=v) c k l (N:=max na nb+1) (max na nb) (by omega)).setFin (q:=max na nb) (s:=oneF kind) (.inr (by rw[d.1];exact Ey c)) (Ex c);have h:(Cs kind na x nb y v).n=max na nb+1:=CS kind na x nb y v _;exact g.msz (by show Aw (AR kind na x nb y v (max na nb)).kind=true;rw[d.1];exact c) (by show (AR kind na x nb y v (max na nb)).n<=_;rw[CS];omega) (by show smS (AR kind na x nb y v (max na nb)).lead;rw[d.2.2];exact j) (by omega)
def TrueB(w:World)(r:Ending)(w':World):Prop:=r=.returned (.bool true)/\Below w.heap.size w w'
instance (v:V):Decidable (fitV v):=by cases v<;>unfold fitV<;>infer_instance
def tb2(a b c d:ByteArray)(i j:Nat):ByteArray:=if i=0 then (if j=0 then a else b) else (if j=0 then c else d)
def k1:KK:=⟨1,.inl rfl⟩
def k2:KK:=⟨2,.inr (.inl rfl)⟩
def k3:KK:=⟨3,.inr (.inr rfl)⟩
def X2:=tb2 ⟨#[49,47,50]⟩ ⟨#[49,47,52]⟩ ⟨#[48]⟩ ⟨#[49,47,51]⟩
end
section
open Go.RowKit
set_option exponentiation.threshold 2000
variable{T:Nat}{v:V}{k:Int}
def bd(T:Nat):V->Prop
 | .fin q=>q.num.natAbs+q.den<=T
 |_=>True
def bd.fit(h:bd T v)(d:T<=10 ^ 399):fitV v:=by
 have g:(10:Nat) ^ 399<10 ^ 400:=Nat.pow_lt_pow_right (by omega) (by omega);cases v with
 |fin q =>
  have c:q.num.natAbs+q.den<=T:=h;exact EX.2 ⟨Nat.lt_of_le_of_lt (Nat.le_trans (Nat.le_add_right _ _) (Nat.le_trans c d)) g,Nat.lt_of_le_of_lt (Nat.le_trans (Nat.le_add_left _ _) (Nat.le_trans c d)) g⟩
 |inf=>trivial
 |low=>trivial
def Mf{n:Int}{d:Nat}(hd:d≠0)(h:n.natAbs+d<=T):bd T (.fin (mkRat n d)):=by
 obtain⟨c,g⟩:=NG (n:=n) hd;show (mkRat n d).num.natAbs+(mkRat n d).den<=T;omega
def RH(c:1<=T):bd T (zeroV k):=by
 unfold zeroV;split
 ·trivial
 show (0:Rat).num.natAbs+(0:Rat).den<=T;simpa using c
def RG{S:Nat}{w:V}(h:bd S v)(i:bd T w)(d:1<=S)(g:1<=T):bd (S*T) (Ah k v w):=by
 unfold Ah
 split
 ·exact RH (Nat.mul_pos d g)
 cases v<;>cases w<;>try trivial
 rename_i x y _;have j:x.num.natAbs+x.den<=S:=h;have l:y.num.natAbs+y.den<=T:=i;have m:=Nat.mul_le_mul j l
 try simp only
 split
 ·rw[Rat.add_def'];refine Mf (Nat.mul_ne_zero x.den_nz y.den_nz) ?_;have c:=Int.natAbs_add_le (x.num*y.den) (y.num*x.den);rw[Int.natAbs_mul,Int.natAbs_mul,Int.natAbs_natCast,Int.natAbs_natCast]at c;have:(x.num.natAbs+x.den)*(y.num.natAbs+y.den)=x.num.natAbs*y.num.natAbs+(x.num.natAbs*y.den+y.num.natAbs*x.den+x.den*y.den):=by grind
  omega
 rw[Rat.mul_def'];refine Mf (Nat.mul_ne_zero x.den_nz y.den_nz) ?_;rw[Int.natAbs_mul];have:(x.num.natAbs+x.den)*(y.num.natAbs+y.den)=x.num.natAbs*y.num.natAbs+(x.num.natAbs*y.den+y.num.natAbs*x.den+x.den*y.den):=by grind
 omega
def sN(f:Nat->Nat):Nat->Nat
 |0=>0
 |n+1=>sN f n+f n
def fr(v:V)(a d:Nat):Prop:=v=.inf\/v=.fin ((a:Rat) / (d:Rat))
end
section
open Go.RowKit
set_option exponentiation.threshold 2000
end
section
open Go.RowKit
set_option exponentiation.threshold 2000
def dgn(s:ByteArray)(i:Nat):Nat:=((bts s).take i).countP dgt
theorem SQ(s:ByteArray):dgn s s.size=(bts s).countP dgt:=by unfold dgn;rw[List.take_of_length_le (by rw[Aq];exact nlr)]
theorem Mx(n:Nat):(dec n).countP dgt=(dec n).length:=List.countP_eq_length.2 λa c=>List.all_eq_true.1 (CX n) a c
def SZ{q:Rat}(h:(txtL q).countP dgt<=4):bd 10000 (.fin q):=by
 show q.num.natAbs+q.den<=10000;unfold txtL at h;have c:(if negQ q then [45] else []:List UInt8).countP dgt=0:=by cases negQ q<;>decide
 have g:(dec q.num.natAbs).length<=4->q.num.natAbs<10 ^ (dec q.num.natAbs).length:=λ_=>(BK.1 nlr).1;have p1:=ET q.num.natAbs;rw[List.countP_append,List.countP_append,c,Mx]at h;by_cases hd:q.den=1
 ·rw[ifp hd]at h;have:=g (by simpa using h);have d:(10:Nat) ^ (dec q.num.natAbs).length<=10 ^ 4:=Nat.pow_le_pow_right (by omega) (by simpa using h);omega
 rw[ifn hd,List.countP_cons,Mx,ifn (by decide)]at h;have p2:=ET q.den;have i:q.num.natAbs<10 ^ 3:=(BK.1 (show (dec q.num.natAbs).length<=3 by omega)).1;have d:q.den<10 ^ 3:=(BK.1 (show (dec q.den).length<=3 by omega)).1;omega
def Xt{k:KK}{s:ByteArray}{x:RK k}(h:Is k 0 s x)(c:dgn s s.size<=4):bd 10000 x.1:=by
 obtain⟨d,_⟩:=Dx.1 h.vprs;obtain⟨rfl,_⟩:=Gn d;rw[SQ]at c;generalize x.1=v at c;cases v with
 |inf=>trivial
 |low=>trivial
 |fin q =>
  refine SZ ?_;have:bts (vtxt (.fin q))=txtL q:=AL _;rw[this]at c;exact c
end
section
open Go.RowKit Go.Deep
def SS(s:ByteArray)(k:Nat)(h:k<s.size):dgn s (k+1)=dgn s k+if dgt s[k] then 1 else 0:=by
 unfold dgn;rw[EH s k h,List.countP_append,List.countP_singleton]
theorem SR(s:ByteArray)(k:Nat):dgn s k<=k:=by
 unfold dgn;exact Nat.le_trans List.countP_le_length (by rw[List.length_take];omega)
def cnZ(k:Int)(X:Nat->Nat->ByteArray)(i j:Nat):Nat:=if X i j=Aj k then 0 else 1
def cQ(k:Int)(n:Nat)(X:Nat->Nat->ByteArray)(q d:Nat):Nat:=sN (λi=>sN (cnZ k X i) n) q+sN (cnZ k X q) d

theorem Mb{D:MD}(hs:MSz D):∀q,Ai D q<=q*140737488355328
 |0=>nlr
 |q+1=>by
  have h:=Mb hs q;have h2:=hs.na q;show Ai D q+D.na q<=_;omega
def LW{D:MD}{v:Value}(w:World)(hM:Ma none w v D)(R:MSz D)(hn:D.n<=100):Calls prog 24 #[v] w (λr w'=>r=.returned (.int .i64 (Ai D D.n:Nat))/\Below w.heap.size w w'):=by
 obtain⟨sv,rfl,W⟩:=hM;obtain⟨a,l,b,U,A,C,BB,O,rfl,K,hc,hm,hb,k⟩:=W.open;unfold maxLen at hm;clear W;have u:=BoxM.new w D (.slice a D.n l);have s:=Jf w (.cells #[.int .i64 D.kind,.int .i64 D.start,.string D.lead,.slice a D.n l] 25);have I:=qh<|λq=>Mb R q;have J:=qh R.na;clear R;replace K:=qh K;replace hb:=qh hb;replace k:=qh k;have g:=qh u;clear u;have z:=qh s;clear s
 go_enter func24,ntmps24
 go_wp2_with fail
 obtain⟨Z,o⟩:=exq<|w.alloc (.cells #[.int .i64 D.kind,.int .i64 D.start,.string D.lead,.slice a D.n l] 25);obtain⟨T,E⟩:=exq<|w.heap.size;rw[<-o,<-E]at g;rw[<-o]at z;rw[<-o,<-E];clear o E
 go_loopw [3,4] (λc i wr=>∃q m:Nat,q<=D.n/\i=.int .i64 (q:Int)/\c=.int .i64 (m:Int)/\m=Ai D q/\BoxM wr T D (.slice a D.n l)/\Below w.heap.size w wr) (λ_ i _=>D.n-(intOf i).toNat)
 case atStart=>exact⟨0,0,Nat.zero_le _,rfl,rfl,rfl,g.o,z.o⟩
 obtain⟨q,m,hq,rfl,rfl,h,B,d⟩:=hrel;clear g z;have m3:=B.c3;have g:=qh B;clear B;replace d:=qh d;by_cases Q:q<D.n
 ·have a2:(q:Int)<(D.n:Int):=by omega
  have Y:(0:Int)<=(q:Int):=by omega
  obtain rfl:=K.o (by omega);have L:=(hb.o (by omega)).1;obtain⟨k1,k2,k3,k4,_⟩:=k.o q Q;generalize A q=aq at k2;have c1:=(d.o.cell (p:=(Ad b (U+q*2+1))) L).trans k2;clear k1 k2;have H:=I.o q;have P:=J.o q;have N:m<=100*140737488355328:=Nat.le_trans (Nat.le_of_eq h) (Nat.le_trans H (Nat.mul_le_mul_right _ (by omega)));clear H;have S:IntKind.i64.wrap ((m:Int)+(D.na q:Int))=(m:Int)+(D.na q:Int):=by rw[IntKind.wrap_i64];omega
  have F:m+D.na q=Ai D (q+1):=by rw[h];rfl
  have X:(D.na q:Int)<=9223372036854775807:=by omega
  replace F:=qh F;clear h N P;go_wp2;go_roundw
  case rel=>exact⟨q+1,m+D.na q,by omega,by go_num,by go_num,F.o,g.o,d.o⟩
  simp[intOf];omega
 have G:q=D.n:=by omega
 have a1:¬((q:Int)<(D.n:Int)):=by omega
 have j:m=Ai D D.n:=by rw[h,G]
 replace j:=qh j;clear h;replace G:=qh G;go_wp2;go_ret
 first|exact⟨rfl,d.o⟩|exact⟨BS (by rw[j.o]),d.o⟩
def KX(s:ByteArray)(w:World)(A:(s.size:Int)<=9223372036854775807):
  Calls prog 108 #[.string s] w λe w'=>e=.returned (.bool (decide (dgn s s.size<=4)))/\w=w':=by
 go_enter func108,ntmps108
 go_wp2_with fail
 go_loop [3,4] (λc i=>∃k:Nat,k<=s.size/\i=.int .i64 k/\c=.int .i64 (dgn s k:Nat)) (λ_ i=>s.size-(intOf i).toNat)
 case atStart=>exact⟨0,Nat.zero_le _,rfl,rfl⟩
 obtain⟨k,z,rfl,rfl⟩:=hrel;by_cases p:k<s.size
 ·have d:=SS s k p;have u:=SR s k;by_cases o:(s[k].toNat:Int)<48
  ·rw[Jt o]at d;have g:=qh d;clear d;have h:decide ((48:Int)<=(s[k].toNat:Int))=false:=by simp;omega
   go_wp2
   go_round
   case rel=>exact⟨k+1,by omega,by go_num,by rw[g.o];rfl⟩
   simp[intOf];omega
  by_cases m:(57:Int)<(s[k].toNat:Int)
  ·rw[Js m]at d;have g:=qh d;clear d;have h:decide ((48:Int)<=(s[k].toNat:Int))=true:=by simp;omega
   have l:decide ((s[k].toNat:Int)<=57)=false:=by simp;omega
   go_wp2
   go_round
   case rel=>exact⟨k+1,by omega,by go_num,by rw[g.o];rfl⟩
   simp[intOf];omega
  rw[Ju (by omega) (by omega),ifp rfl]at d;have g:=qh d;clear d;have h:decide ((48:Int)<=(s[k].toNat:Int))=true:=by simp;omega
  have l:decide ((s[k].toNat:Int)<=57)=true:=by simp;omega
  go_wp2
  go_round
  case rel=>exact⟨k+1,by omega,by go_num,by rw[g.o];go_num⟩
  simp[intOf];omega
 have j:k=s.size:=by omega
 replace j:=qh j;go_wp2;go_ret;exact⟨AJ (by rw[<-j.o];simp;omega),rfl⟩
structure ShM(D:MD):Prop where
 lead:dgn D.lead D.lead.size<=4
 st:∀i,i<D.n->dgn (D.fin i) (D.fin i).size<=4/\∀d,d<D.na i->dgn (D.aw i d) (D.aw i d).size<=4
def Xu{D:MD}{v:Value}(w:World)(hM:Ma none w v D)(Q:MSz D)(P:Prop)(S:P↔ShM D):Calls prog 58 #[v] w (TestE P w):=by
 replace S:=qh S;obtain⟨sv,rfl,hS⟩:=hM;obtain⟨a,s,b,R,A,C,BB,O,rfl,ha,hc,hm,hb,E⟩:=hS.open;unfold maxLen at hm;clear hS;have b1:=Q.n;have m:=BoxM.new w D (.slice a D.n s);have u:=Jf w (.cells #[.int .i64 D.kind,.int .i64 D.start,.string D.lead,.slice a D.n s] 25);replace Q:=qh Q;replace ha:=qh ha;replace hb:=qh hb;replace E:=qh E;obtain⟨wm,o⟩:=exq<|w.alloc (.cells #[.int .i64 D.kind,.int .i64 D.start,.string D.lead,.slice a D.n s] 25);obtain⟨Y,B⟩:=exq<|w.heap.size;rw[<-o,<-B]at m;rw[<-o]at u;have m2:=m.c2;have j:=qh m;clear m;have I:=qh u;clear u;have a1:=qh (λW=>KX D.lead W (by have:=Q.o.lead;omega));rw[o,B]at m2
 go_enter func58,ntmps58
 go_wp2_with fail
 rw[<-o,<-B]at m2;rw[<-o,<-B];clear o B m2;refine(a1.o _).mono ?_;rintro r w1⟨rfl,rfl⟩;cases F:decide (dgn D.lead D.lead.size<=4)
 ·go_wp2;go_ret;exact⟨false,rfl,⟨(λh=>by cases h),λh=>by have T:=(S.o.1 h).lead;rw[decide_eq_true T]at F;cases F⟩,I.o⟩
 have HL:=qh<|of_decide_eq_true F
 go_wp2_with fail
 go_loopw [3] (λi wr=>∃q:Nat,q<=D.n/\i=.int .i64 (q:Int)/\(∀l,l<q->dgn (D.fin l) (D.fin l).size<=4/\∀d,d<D.na l->dgn (D.aw l d) (D.aw l d).size<=4)/\BoxM wr Y D (.slice a D.n s)/\Below w.heap.size w wr) (λi _=>D.n-(intOf i).toNat)
 case atStart=>exact⟨0,Nat.zero_le _,rfl,λl F=>by omega,j.o,I.o⟩
 obtain⟨q,hq,rfl,G,k,z⟩:=hrel;clear j I;have m3:=k.c3;replace G:=qh G;have j:=qh k;clear k;have c:=qh z;clear z;by_cases L:q<D.n
 ·have b2:(q:Int)<(D.n:Int):=by omega
  have a7:(0:Int)<=(q:Int):=by omega
  obtain rfl:=ha.o (by omega);have U:=(hb.o (by omega)).1;obtain⟨k1,k2,k3,k4,X,k6,k7⟩:=E.o q L;generalize A q=aq at k2 X;have c0:=(c.o.cell (p:=(Ad b (R+q*2))) U).trans k1;unfold maxLen at k4;clear k1;replace k2:=qh k2;replace k7:=qh k7;replace X:=qh X;replace k6:=qh k6;have b0:=Q.o.na q;have Z:=qh (λW=>KX (D.fin q) W (by have:=Q.o.fin q;omega))
  go_wp2_with fail
  refine(Z.o _).mono ?_;rintro r w2⟨rfl,rfl⟩;clear c0;cases hf:decide (dgn (D.fin q) (D.fin q).size<=4)
  ·go_wp2;go_ret;exact⟨false,rfl,⟨(λh=>by cases h),λh=>by have T:=((S.o.1 h).st q L).1;rw[decide_eq_true T]at hf;cases hf⟩,c.o⟩
  have HF:=qh<|of_decide_eq_true hf
  go_wp2_with fail
  go_loopw [4] (λi wr=>∃d:Nat,d<=D.na q/\i=.int .i64 (d:Int)/\(∀l,l<d->dgn (D.aw q l) (D.aw q l).size<=4)/\BoxM wr Y D (.slice (some (Ad b R)) D.n s)/\Below w.heap.size w wr) (λi _=>D.na q-(intOf i).toNat)
  case atStart=>exact⟨0,Nat.zero_le _,rfl,λl F=>by omega,j.o,c.o⟩
  clear j c m3;obtain⟨d,hd,rfl,g,k,z⟩:=hrel;have m3:=k.c3;replace g:=qh g;have j:=qh k;clear k;have c:=qh z;clear z;have c1:=(c.o.cell (p:=(Ad b (R+q*2+1))) U).trans k2.o;by_cases H:d<D.na q
  ·have a9:(d:Int)<(D.na q:Int):=by omega
   have a6:(0:Int)<=(d:Int):=by omega
   obtain rfl:=X.o (by omega);have a4:=(k6.o (by omega)).1;obtain⟨_,_,j2,_⟩:=k7.o d H;have e2:=(c.o.cell (p:=(Ad (BB q) (O q+d*4+2))) a4).trans j2;clear j2;have a2:=qh (λW=>KX (D.aw q d) W (by have:=Q.o.aw q d;omega))
   go_wp2_with fail
   refine(a2.o _).mono ?_;rintro r w2⟨rfl,rfl⟩;clear c1 e2;cases hw:decide (dgn (D.aw q d) (D.aw q d).size<=4)
   ·go_wp2;go_ret;exact⟨false,rfl,⟨(λh=>by cases h),λh=>by have T:=((S.o.1 h).st q L).2 d H;rw[decide_eq_true T]at hw;cases hw⟩,c.o⟩
   have HW:=qh<|of_decide_eq_true hw;go_wp2;go_roundw
   case rel =>
    refine⟨d+1,by omega,by go_num,λl F=>?_,j.o,c.o⟩
    rcases Nat.lt_succ_iff_lt_or_eq.1 F with J|J
    ·exact g.o l J
    subst J;exact HW.o
   simp[intOf];omega
  have K:d=D.na q:=by omega
  have a5:¬((d:Int)<(D.na q:Int)):=by omega
  replace K:=qh K;go_wp2;go_roundw
  case rel =>
   refine⟨q+1,by omega,by go_num,λl F=>?_,j.o,c.o⟩
   rcases Nat.lt_succ_iff_lt_or_eq.1 F with J|J
   ·exact G.o l J
   subst J;exact⟨HF.o,λd' a8=>g.o d' (by have:=K.o;omega)⟩
  simp[intOf];omega
 have N:q=D.n:=by omega
 have a5:¬((q:Int)<(D.n:Int)):=by omega
 replace N:=qh N;go_wp2;go_ret;exact⟨true,rfl,⟨λ_=>S.o.2 ⟨HL.o,λi hi=>G.o i (by have:=N.o;omega)⟩,λ_=>rfl⟩,c.o⟩
def LitL(n:Nat)(Ds:Nat->MD):Prop:=sM (λi=>(Ds i).n) n<=5/\sM (λi=>Ai (Ds i) (Ds i).n) n<=10/\∀i,i<n->ShM (Ds i)
def LiE(n:Nat)(Ds:Nat->MD)(w:World)(r:Ending)(w':World):Prop:=Below w.heap.size w w'/\∃b:Bool,r=.returned (.bool b)/\(b=true->LitL n Ds)
def UD{n m:Nat}{g:Nat->MD}{na:Nat->Nat}{lv wv:Value}(w:World)(hl:MsS w lv n g)(hw:WsS w wv m na)(hs:∀i,i<n->MSz (g i))(hn:n<=3)(hm:m<=3)(k:∀i,i<n->(g i).n<=12/\Ai (g i) (g i).n<=60)(l:∀i,i<m->na i<=140737488355328):
  Calls prog 25 #[lv,wv] w (LiE n g w):=by
 obtain⟨a,b7,b,K,F,rfl,h2,h3,h4,h5⟩:=hl;obtain⟨a',b1,b',b5,A,C,rfl,g2,g3,g4,g5⟩:=hw;have HM:=qh h5;clear h5;replace g5:=qh g5;replace h4:=qh h4;have a6:=qh g4;clear g4;replace hs:=qh hs;replace k:=qh k;have S:=qh l;clear l;have HN:=qh hn;have b6:=qh hm;clear h2 h3 g2 g3
 go_enter func25,ntmps25
 go_wp2_with fail
 go_loopw [5,6,8] (λs c i wr=>∃(q E B:Nat),q<=n/\i=.int .i64 (q:Int)/\s=.int .i64 (E:Int)/\c=.int .i64 (B:Int)/\E=sM (λi=>(g i).n) q/\B=sM (λi=>Ai (g i) (g i).n) q/\(∀j,j<q->ShM (g j))/\Below w.heap.size w wr) (λ_ _ i _=>n-(intOf i).toNat)
 case atStart=>exact⟨0,0,0,Nat.zero_le _,rfl,rfl,rfl,rfl,rfl,λj hj=>by omega,blr⟩
 obtain⟨q,E,B,hq,rfl,rfl,rfl,z,o,I,a1⟩:=hrel;have d4:E<=36:=by
  rw[z];exact Nat.le_trans (Gs q λi hi=>(k.o i (by omega)).1) (by omega)
 have b8:B<=180:=by
  rw[o];exact Nat.le_trans (Gs q λi hi=>(k.o i (by omega)).2) (by omega)
 replace z:=qh z;replace o:=qh o;replace I:=qh I;have d:=qh a1;clear a1;by_cases P:q<n
 ·have d3:(q:Int)<(n:Int):=by omega
  have b4:(0:Int)<=(q:Int):=by omega
  obtain rfl:=h4.o (by omega);obtain⟨L,k1,k2,k3,k4,k5⟩:=HM.o q P;obtain⟨d1,d2⟩:=k.o q P;obtain⟨D,R⟩:=exq<|g q;have hz:=hs.o q P;rw[<-R]at k1 k2 k3 k5 d1 d2 hz;obtain⟨sa,sc,_,_,_,_,_,_,a5,_⟩:=k5.open;rw[a5]at k4 k5;clear a5;have HK:=qh<|show ∀W,Below w.heap.size w W->W.cell? (Ad b (K+q*4))=some (.int .i64 D.kind)/\W.cell? (Ad b (K+q*4+1))=some (.int .i64 D.start)/\W.cell? (Ad b (K+q*4+2))=some (.string D.lead)/\W.cell? (Ad b (K+q*4+3))=some (.slice sa D.n sc) from λW hb=>⟨(hb.cell (p:=(Ad b _)) L).trans k1,(hb.cell (p:=(Ad b _)) L).trans k2,(hb.cell (p:=(Ad b _)) L).trans k3,(hb.cell (p:=(Ad b _)) L).trans k4⟩;have U:=qh<|show ∀W,Below w.heap.size w W->Ma none W (.agg #[.int .i64 D.kind,.int .i64 D.start,.string D.lead,.slice sa D.n sc]) D from λW hb=>⟨_,rfl,k5.kept (Ab hb none)⟩;clear L k1 k2 k3 k4 k5;replace hz:=qh hz;obtain⟨c0,c1,c2,c3⟩:=HK.o wr d.o;have b0:IntKind.i64.wrap ((E:Int)+(D.n:Int))=((E+D.n:Nat):Int):=by rw[IntKind.wrap_i64];omega
  have N:=qh<|LW wr (U.o wr d.o) hz.o (by omega);obtain⟨dn,a2⟩:=exq<|D.n;obtain⟨X,G⟩:=exq<|Ai D D.n;rw[<-G]at N d2;have d5:IntKind.i64.wrap ((B:Int)+(X:Int))=((B+X:Nat):Int):=by rw[IntKind.wrap_i64];omega
  replace a2:=qh a2;replace G:=qh G;replace R:=qh R
  go_wp2_with fail
  refine N.o.mono ?_;rintro r w2⟨rfl,l⟩;replace d:=qh<|d.o.trans (l.mono d.o.size);clear l c0 c1 c2 c3 N;obtain⟨c0,c1,c2,c3⟩:=HK.o w2 d.o;have T:=qh<|Xu w2 (U.o w2 d.o) hz.o (ShM D) Iff.rfl
  go_wp2_with fail
  refine T.o.mono ?_;rintro r w3⟨bb,rfl,O,Z⟩;replace d:=qh<|d.o.trans (Z.mono d.o.size);clear Z c0 c1 c2 c3 T;replace O:=qh O;cases bb
  ·go_wp2;go_ret;exact⟨d.o,false,rfl,λh=>by cases h⟩
  go_wp2;go_roundw
  case rel =>
   refine⟨q+1,E+D.n,B+X,by omega,by go_num,by first|rfl|go_num,by first|rfl|go_num,by rw[z.o,R.o];rfl,by rw[o.o,G.o,R.o];rfl,λj hj=>?_,d.o⟩
   by_cases e:j=q
   ·rw[e,<-R.o];exact O.o.1 (by first|rfl|trivial)
   exact I.o j (by omega)
  simp[intOf];omega
 have u:q=n:=by omega
 have b9:¬((q:Int)<(n:Int)):=by omega
 replace u:=qh u
 go_wp2_with fail
 go_loopw [7,9] (λy i W=>∃(j Q:Nat),j<=m/\i=.int .i64 (j:Int)/\y=.int .i64 (Q:Int)/\Q=sM na j/\W=wr) (λ_ i _=>m-(intOf i).toNat)
 case atStart=>exact⟨0,0,Nat.zero_le _,rfl,rfl,rfl,rfl⟩
 obtain⟨j,Q,hj,rfl,rfl,J,rfl⟩:=hrel;have d6:Q<=422212465065984:=by
  rw[J];exact Nat.le_trans (Gs j λi hi=>S.o i (by omega)) (by omega)
 replace J:=qh J;by_cases a4:j<m
 ·have d0:(j:Int)<(m:Int):=by omega
  have b3:(0:Int)<=(j:Int):=by omega
  obtain rfl:=a6.o (by omega);obtain⟨L,k1⟩:=g5.o j a4;have c0:=(d.o.cell (p:=(Ad b' _)) L).trans k1;have a9:=S.o j a4;clear L k1;obtain⟨nj,H⟩:=exq<|na j;rw[<-H]at c0 a9;replace H:=qh H;generalize A j=aj at c0;generalize C j=cj at c0;have b0:IntKind.i64.wrap ((Q:Int)+(nj:Int))=((Q+nj:Nat):Int):=by rw[IntKind.wrap_i64];omega
  go_wp2;go_roundw
  case rel=>exact⟨j+1,Q+nj,by omega,by go_num,by first|rfl|go_num,by rw[J.o,H.o];rfl,by first|rfl|trivial⟩
  simp[intOf];omega
 have b2:¬((j:Int)<(m:Int)):=by omega
 by_cases h5:E<=5
 ·have a8:decide ((E:Int)<=5)=true:=by simp;omega
  by_cases a7:B<=10
  ·have Y:decide ((B:Int)<=10)=true:=by simp;omega
   have HL:=qh (show LitL n g from ⟨by rw[<-u.o,<-z.o];exact h5,by rw[<-u.o,<-o.o];exact a7,by rw[<-u.o];exact I.o⟩);go_wp2;go_ret;exact⟨d.o,_,rfl,λ_=>HL.o⟩
  have Y:decide ((B:Int)<=10)=false:=by simp;omega
  go_wp2;go_ret;exact⟨d.o,false,rfl,λh=>by cases h⟩
 have a8:decide ((E:Int)<=5)=false:=by simp;omega
 go_wp2;go_ret;exact⟨d.o,false,rfl,λh=>by cases h⟩
end
section
open Go.RowKit Go.Deep
variable{B:Nat}{R:Nat->Value}
def Has(W:World)(b:Nat)(k s:Int)(l:ByteArray)(a:Option Addr)(n c:Nat)(D:MD):Prop :=
 W.heap[b]?=some (.cells #[.int .i64 k,.int .i64 s,.string l,.slice a n c] 25 (0,0))/\(k=D.kind/\s=D.start/\l=D.lead)/\∃R,OwM W 0 (.slice a n c) D R
def Dd{w w':World}{sv:Value}{D:MD}(h:OwM w B sv D R)(hb:Below w.heap.size w w'):OwM w' B sv D R :=
 ⟨AK h.top (Ab hb none) (λ_ _=>by simp),λi hi=>AK (h.row i hi) (Ab hb none) (λ_ _=>by simp),h.apart⟩
variable{W W':World}{b rb:Nat}{k s:Int}{l:ByteArray}{a:Option Addr}{n c:Nat}{D:MD}
def Has.on(h:Has W b k s l a n c D)(hb:Below W.heap.size W W'):Has W' b k s l a n c D:=⟨(hb.block b (lbk h.1)).trans h.1,h.2.1,by obtain⟨R,d⟩:=h.2.2;exact⟨R,Dd d hb⟩⟩
theorem Has.ma(h:Has W b k s l a n c D):Ma none W (.agg #[.int .i64 k,.int .i64 s,.string l,.slice a n c]) D:=by
 obtain⟨_,⟨rfl,rfl,rfl⟩,R,d⟩:=h;exact d.ma blr
def Has.set(h:Has W b k s l a n c D){c0 c1 c2 c3:Value}(m:W.heap[rb]?=some (.cells #[c0,c1,c2,c3] 25 (0,0)))(d:b≠rb)(o p u z:Value):Has ((((W.setCell (Ad rb 0) o).setCell (Ad rb 1) p).setCell (Ad rb 2) u).setCell (Ad rb 3) z) b k s l a n c D:=by
 obtain⟨g,i,R,j⟩:=h;refine⟨?_,i,R,j.box4 m _ _ _ _⟩;rw[AN d,AN d,AN d,AN d];exact g
def Has.new(h:OwM W B (.slice a n c) D R)(e:k=D.kind/\s=D.start/\l=D.lead):Has (W.alloc (.cells #[.int .i64 k,.int .i64 s,.string l,.slice a n c] 25)) W.heap.size k s l a n c D :=
 ⟨han W _,e,R,CJ (Dd h ((Below.refl _ W).alloc nlr _)) nzl⟩
theorem Has.put{c0 c1 c2 c3:Value}(h:OwM W B (.slice a n c) D R)(d:W.heap[rb]?=some (.cells #[c0,c1,c2,c3] 25 (0,0)))(e:k=D.kind/\s=D.start/\l=D.lead):Has ((((W.setCell (Ad rb 0) (.int .i64 k)).setCell (Ad rb 1) (.int .i64 s)).setCell (Ad rb 2) (.string l)).setCell (Ad rb 3) (.slice a n c)) rb k s l a n c D :=
 ⟨AA W rb _ _ _ _ d,e,R,CJ (h.box4 d _ _ _ _) nzl⟩
end
section
open Go.RowKit Go.Deep

end
section
open Go.RowKit Go.Deep
structure WG(w0 wo w:World)(cb c8 xb yb:Nat)(D:MD)(sv stv xv yv:Value)(e:Nat):Prop where
 hb:Below w0.heap.size w0 w
 gs:wo.grownBy w (some cb)
 sc:Scl w cb D sv stv e
 k8:Bx w c8 114 (.pointer (some (Ad cb 0)))
 kx:Bx w xb 26 xv
 ky:Bx w yb 26 yv
 lc:w0.heap.size<=cb
 lo:w0.heap.size<=wo.heap.size
namespace WG
variable{w0 wo w w':World}{cb c8 xb yb:Nat}{D:MD}{sv stv xv yv:Value}{e:Nat}
end WG
end
section
open Go.RowKit Go.Deep

end
theorem kb{w v:World}{b:Nat}{o:Obj}(g:Hd (w.heap[b]?=some o))(h:RowKit.Below w.heap.size w v):Hd (v.heap[b]?=some o):=(h.block _ (lbk g.o)).trans g.o
theorem nd{u w v:World}(d:Hd (RowKit.Below u.heap.size u w))(h:RowKit.Below w.heap.size w v):Hd (RowKit.Below u.heap.size u v):=d.o.trans (h.mono d.o.size)
theorem ho{w v:World}{b n c:Nat}{k s:Int}{l:ByteArray}{a:Option Addr}{D:MD}(g:Hd (Has w b k s l a n c D))(h:RowKit.Below w.heap.size w v):Hd (Has v b k s l a n c D):=g.o.on h
end Go.Proofs.YtpldocnhbdlgfaaGreatDoor
