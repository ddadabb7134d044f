/- Parts. -/
import Derived.Test.YtpldocnhbdlgfaaGreatDoorPc32
import Derived.Test.YtpldocnhbdlgfaaGreatDoorPc28
namespace Go.Proofs.YtpldocnhbdlgfaaGreatDoor
set_option maxRecDepth 100000
set_option linter.all false
set_option maxHeartbeats 16000000
open Go Tryz
section
open Go CSR
variable{n p q:Nat}{f:Bool}
def alF(A:MD)(p:Nat):Bool:=(List.range (A.na p)).any λk=>A.aout p k==0
def Ll(A:MD)(p:Nat):alF A p=true\/∀k,k<A.na p->A.aout p k≠0:=by
 cases h:alF A p
 ·right;intro k c e
  unfold alF at h;rw[List.any_eq_false]at h;exact h k (List.mem_range.2 c) (by simp[e])
 exact .inl rfl
def acP(A B:MD)(al:Nat->Bool):Nat->Nat
 |0=>0
 |n+1=>acP A B al n+match (itP A B al n).1[n]? with|none=>0|some (p,q,f)=>(arL A B (al p) p q f).length
def bnd(A B:MD):Nat:=Ai A A.n+Ai A A.n*Ai B B.n+Ai B B.n
structure Cvi(A B:MD)(al:Nat->Bool)(n:Nat)(S:List Plc × MD)(ac fl:Nat):Prop where
 nd:S.1.Nodup
 len:S.2.n=S.1.length
 ok:∀x ∈ S.1,x.1<A.n/\x.2.1<B.n
 le:S.1.length<=3001
 na:∀i,S.2.na i<=ac
 ac1:ac<=30001
 acn:ac<=n*bnd A B
 nn:n<=S.1.length
 fl2:fl=0\/fl=2
 good:fl=0->S.1.length<=3000/\ac<=30000/\S=itP A B al n/\ac=acP A B al n/\(Ah A.kind A.lead B.lead).2=0/\∀i p q f,i<n->S.1[i]?=some (p,q,f)->PrOk A B p q
 bad:fl=2->BadW A B\/3000<S.1.length\/30000<ac
def BadC(A B:MD):Prop:=BadW A B\/3000<2*(A.n*B.n)\/30000<2*(A.n*B.n)*bnd A B
section
variable{A B:MD}{al:Nat->Bool}{n:Nat}{S:List Plc × MD}{ac fl:Nat}
def Cvi.badC(h:Cvi A B al n S ac fl)(hf:fl=2):BadC A B:=by
 have d:=SQ h.nd h.ok
 rcases h.bad hf with c|c|c
 ·exact .inl c
 ·exact .inr (.inl (by omega))
 have g:n*bnd A B<=2*(A.n*B.n)*bnd A B:=Nat.mul_le_mul_right _ (Nat.le_trans h.nn d);exact .inr (.inr (by have:=h.acn;omega))
def Cvi.lvi(h:Cvi A B al n S ac 0)(hn:n<S.1.length):Lvi A B n [] S S ac ac 0 :=
 ⟨h.nd,h.len,h.ok,h.le,h.na,h.ac1,nlr,hn,⟨[],by simp⟩,.inl rfl,λ_=>⟨(h.good rfl).1,rfl,rfl⟩,λe=>by cases e⟩
def Cvi.next{s:List Plc × MD}{d j:Nat}(h:Cvi A B al n S ac 0)(k:S.1[n]?=some (p,q,f))(c:Lvi A B n (arL A B (al p) p q f) (S.1,finP A B p q n S.2) s ac d j)(L:j=0->PrOk A B p q/\d<=30000):Cvi A B al (n+1) s d j:=by
 obtain⟨J,K⟩:=h.ok _ (List.mem_of_getElem? k);obtain⟨m,o⟩:=c.pre;have o:s.1=S.1++m:=o;have I:n<S.1.length:=by
  rcases Nat.lt_or_ge n S.1.length with l|l
  ·exact l
  rw[List.getElem?_eq_none l]at k;cases k
 refine⟨c.nd,c.len,c.ok,c.le,c.na,c.ac1,?_,by have:=c.n1;omega,c.fl2,λe=>?_,c.bad⟩
 ·have l:=c.acn;have G:=Qw J K (al p) f;have H:=h.acn;rw[Nat.succ_mul];obtain⟨b,hb⟩:=exq<|bnd A B;have U:(arL A B (al p) p q f).length<=b:=by rw[hb];exact G
  rw[<-hb]at H ⊢;omega
 obtain⟨R,T,u,D,E,F⟩:=h.good rfl;obtain⟨k1,k2,k3⟩:=c.good e;obtain⟨P,Q⟩:=L e;refine⟨k1,Q,?_,?_,E,λi N O C hi g=>?_⟩
 ·rw[k2];show _=CW A B al n (itP A B al n);rw[<-u];unfold CW;rw[k]
 ·show d=acP A B al n+match (itP A B al n).1[n]? with|none=>0|some (p,q,f)=>(arL A B (al p) p q f).length
  rw[<-u,k,k3,D]
 by_cases z:i=n
 ·subst z;rw[o,List.getElem?_append_left I,k]at g;cases g;exact P
 rw[o,List.getElem?_append_left (by omega)]at g;exact F i N O C (by omega) g
end
structure CmpIs(A B:MD)(al:Nat->Bool)(n:Nat)(M:MD):Prop where
 len:(itP A B al n).1.length=n
 eq:M=(itP A B al n).2
 n3:n<=3000
 a3:acP A B al n<=30000
 lead:(Ah A.kind A.lead B.lead).2=0
 pr:∀i p q f,i<n->(itP A B al n).1[i]?=some (p,q,f)->PrOk A B p q
def Cvi.is{A B:MD}{al:Nat->Bool}{S:List Plc × MD}{ac:Nat}(h:Cvi A B al n S ac 0)(hn:n=S.1.length):CmpIs A B al n S.2:=by
 obtain⟨i,j,c,k,d,g⟩:=h.good rfl;exact⟨by rw[<-c];exact hn.symm,by rw[<-c],by omega,by omega,d,by rw[<-c];exact g⟩
section
variable{A B:MD}(hA:VM A)(hB:VM B)(hkk:A.kind=B.kind)(hSA:MSz A)(hSB:MSz B)
include hA hB hkk hSA hSB
def OkAr(A:MD)(r:ArP):Prop:=(0<=r.1/\r.1<=500)/\(0<=r.2.1/\r.2.1<=500)/\Am A.kind r.2.2.1=true/\smS r.2.2.1
theorem Qy{al:Bool}(o:p<A.n)(s:q<B.n)(D:PrOk A B p q):∀r ∈ arL A B al p q f,OkAr A r:=by
 obtain⟨k,F⟩:=hA.kk;have u:∀i,i<A.na p->A.aout p i≠0->∀m,m<=B.na q->∀r ∈ mtL A B p q i m,OkAr A r:=λi hi j m=>by
  induction m with
  |zero=>intro _ r c;cases c
  |succ m ih =>
   intro l r c
   rcases List.mem_append.1 c with h|h
   ·exact ih (by omega) r h
   split at h
   ·rename_i E;have e:=List.mem_singleton.1 h;have g:=hA.arc p i o hi;have d:=hB.arc q m s (by omega);rw[e];exact⟨⟨g.i0,g.i1⟩,⟨d.o0,d.o1⟩,Ih hA hB F hkk g.wt d.wt (D.2 i m hi (by omega) j E),If _ _ _⟩
   cases h
 have z:∀m,m<=A.na p->∀r ∈ lfL A B p q f m,OkAr A r:=λm=>by
  induction m with
  |zero=>intro _ r c;cases c
  |succ m ih =>
   intro l r c
   rcases List.mem_append.1 c with h|h
   ·exact ih (by omega) r h
   split at h
   ·split at h
    ·cases h
    have e:=List.mem_singleton.1 h;have g:=hA.arc p m o (by omega);rw[e];exact⟨⟨g.i0,g.i1⟩,⟨by show (0:Int)<=0;omega,by show (0:Int)<=500;omega⟩,g.wt,hSA.aw p m⟩
   rename_i j;exact u m (by omega) j _ nlr r h
 have C:∀m,m<=B.na q->∀r ∈ rtL B al p q m,OkAr A r:=λm=>by
  induction m with
  |zero=>intro _ r c;cases c
  |succ m ih =>
   intro l r c
   rcases List.mem_append.1 c with h|h
   ·exact ih (by omega) r h
   split at h
   ·have e:=List.mem_singleton.1 h;have d:=hB.arc q m s (by omega);rw[e];exact⟨⟨by show (0:Int)<=0;omega,by show (0:Int)<=500;omega⟩,⟨d.o0,d.o1⟩,by rw[hkk];exact d.wt,hSB.aw q m⟩
   cases h
 intro r c
 rcases List.mem_append.1 c with h|h
 ·exact z _ nlr r h
 exact C _ nlr r h
omit hB hkk hSA hSB in
theorem Qn{c:Nat}{S:List Plc × MD}{r:ArP}(h:BOk S.2 S.1.length c)(hl:S.2.n=S.1.length)(hk:S.2.kind=A.kind)(hr:OkAr A r):BOk (addP n S r).2 (addP n S r).1.length (c+1)/\(addP n S r).2.n=(addP n S r).1.length/\(addP n S r).2.kind=A.kind:=by
 have hlen:=JC hl r.2.2.2;have hkn:(numP S r.2.2.2).2.kind=A.kind:=by unfold numP;split<;>exact hk
 have hb:BOk (numP S r.2.2.2).2 (numP S r.2.2.2).1.length c:=by
  unfold numP;split
  ·exact h
  exact(h.state (.inl rfl) (by unfold smS;decide)).mono (by simp) nlr
 have hpos:posP S.1 r.2.2.2<(numP S r.2.2.2).1.length:=by
  unfold numP;split
  ·rename_i hx;exact Hk hx
  rename_i hx;rw[Hl hx];simp
 exact⟨hb.put hr.1 hr.2.1 ⟨by omega,by omega⟩ (by rw[hkn];exact hr.2.2.1) hr.2.2.2,hlen,hkn⟩
omit hB hkk hSA hSB in
theorem Lg{n:Nat}:∀(L:List ArP) {c:Nat} {S:List Plc × MD},BOk S.2 S.1.length c->S.2.n=S.1.length->S.2.kind=A.kind->(∀r ∈ L,OkAr A r)->BOk (addL n S L).2 (addL n S L).1.length (c+L.length)/\(addL n S L).2.n=(addL n S L).1.length/\(addL n S L).2.kind=A.kind
 | [],c,S,h,hl,hk,_=>⟨h,hl,hk⟩
 |r::t,c,S,h,hl,hk,hr=>by
  obtain⟨h1,h2,h3⟩:=Qn (n:=n) hA h hl hk (hr r (by simp));obtain⟨h4,h5,h6⟩:=Lg t h1 h2 h3 (λr' hr'=>hr r' (by simp[hr']));exact⟨h4.mono nlr (by rw[List.length_cons];omega),h5,h6⟩
theorem Mz{al:Nat->Bool}:∀n,n<=(itP A B al n).1.length->(∀i p q f,i<n->(itP A B al n).1[i]?=some (p,q,f)->PrOk A B p q)->BOk (itP A B al n).2 (itP A B al n).1.length (acP A B al n)/\(itP A B al n).2.n=(itP A B al n).1.length/\(itP A B al n).2.kind=A.kind
 |0,_,_=>⟨(BOk.empty A.kind 0 (tmS A A.lead B.lead) 1).state (.inl rfl) (by unfold smS;decide),rfl,rfl⟩
 |n+1,hn,hP=>by
  have hn':n<(itP A B al n).1.length:=by
   rcases Nat.lt_or_ge n (itP A B al n).1.length with h|h
   ·exact h
   have e:itP A B al (n+1)=itP A B al n:=FK (A:=A) (B:=B) (al:=al) h 1;rw[e]at hn;omega
  obtain⟨x,hx⟩:∃x,(itP A B al n).1[n]?=some x:=⟨_,List.getElem?_eq_getElem hn'⟩;obtain⟨p,q,f⟩:=x;obtain⟨k,hk⟩:=hA.kk;obtain⟨hj,_⟩:=Jp.it (k:=k) (al:=al) hA hB n (by omega);obtain⟨hp,hq⟩:=hj.ok _ (List.mem_of_getElem? hx)
  dsimp only at hp hq
  have e:itP A B al (n+1)=addL n ((itP A B al n).1,finP A B p q n (itP A B al n).2) (arL A B (al p) p q f):=by
   show CW A B al n (itP A B al n)=_;unfold CW;rw[hx]
  have hkeep:∀(L:List ArP) (T:List Plc × MD),∃m,(addL n T L).1=T.1++m:=λL=>by
   induction L with
   |nil=>intro T;exact⟨[],by simp[addL]⟩
   |cons r t ih =>
    intro T;obtain⟨m,hm⟩:=ih<|addP n T r;obtain⟨m',hm'⟩:=JE T r.2.2.2;exact⟨m'++m,by show (addL n (addP n T r) t).1=_;rw[hm];show (numP T r.2.2.2).1++m=_;rw[hm',List.append_assoc]⟩
  obtain⟨m,hm⟩:=hkeep (arL A B (al p) p q f) ((itP A B al n).1,finP A B p q n (itP A B al n).2);have hm2:(itP A B al (n+1)).1=(itP A B al n).1++m:=by rw[e];exact hm
  have hP':∀i p q f,i<n+1->(itP A B al n).1[i]?=some (p,q,f)->PrOk A B p q:=λi p' q' f' hi hx'=>hP i p' q' f' hi (by rw[hm2,List.getElem?_append_left (by omega)];exact hx');obtain⟨h1,h2,h3⟩:=Mz n (by omega) (λi p' q' f' hi=>hP' i p' q' f' (by omega));have hPn:=hP' n p q f (by omega) hx;have hf:BOk (finP A B p q n (itP A B al n).2) (itP A B al n).1.length (acP A B al n):=by
   unfold finP;split
   ·exact h1
   rename_i hne;refine h1.setFin (.inr ?_) (If _ _ _);rw[h3];have e1:A.fin p≠⟨#[]⟩:=λe=>hne (.inl e);have e2:B.fin q≠⟨#[]⟩:=λe=>hne (.inr e);exact Ih hA hB hk hkk ((hA.fin p hp).resolve_left e1) ((hB.fin q hq).resolve_left e2) (hPn.1 e1 e2)
  have hfn:(finP A B p q n (itP A B al n).2).n=(itP A B al n).1.length:=by rw[(Jd _).1];exact h2
  have hfk:(finP A B p q n (itP A B al n).2).kind=A.kind:=by unfold finP;split<;>exact h3
  obtain⟨h4,h5,h6⟩:=Lg (n:=n) hA (arL A B (al p) p q f) (S:=((itP A B al n).1,finP A B p q n (itP A B al n).2)) hf hfn hfk (Qy hA hB hkk hSA hSB hp hq hPn);rw[<-e]at h4 h5 h6;have ea:acP A B al (n+1)=acP A B al n+(arL A B (al p) p q f).length:=by
   show _+(match (itP A B al n).1[n]? with|none=>0|some (p,q,f)=>(arL A B (al p) p q f).length)=_
   rw[hx]
  rw[ea];exact⟨h4,h5,h6⟩
theorem CmpIs.vm{al:Nat->Bool}{n:Nat}{M:MD}(h:CmpIs A B al n M):VM M/\MSz M/\M.kind=A.kind/\M.start=0/\M.lead=tmS A A.lead B.lead/\M.n=n:=by
 obtain⟨k,u⟩:=hA.kk;have z:=h.len;obtain⟨p,_⟩:=Jp.it (k:=k) (al:=al) hA hB n (by omega);obtain⟨j,c,s⟩:=Mz hA hB hkk hSA hSB (al:=al) n (by omega) h.pr;rw[<-h.eq]at j c s;obtain⟨g,l,i⟩:=p.hd;rw[<-h.eq]at g l i;rw[z]at j c;have C:(0:Nat)<n:=by
  have m:=p.st
  rcases Nat.eq_zero_or_pos n with o|o
  ·rw[List.getElem?_eq_none (by omega)]at m;cases m
  exact o
 have d:As M.kind=true:=by rw[g];exact hA.kind
 refine⟨BOk.vm (by rw[c];exact j) d (by omega) (by have:=h.n3;omega) (by rw[l,c];omega) (by rw[i,g];exact Ih hA hB u hkk hA.lead hB.lead h.lead) h.a3,BOk.msz j d (by have:=h.n3;omega) (by rw[i];exact If _ _ _) (by have:=h.a3;omega),g,l,i,c⟩
end
end
section
open Go CSR
section
variable{A B M:MD}(hA:VM A)(hB:VM B)(hkk:A.kind=B.kind)(hSA:MSz A)(hSB:MSz B){al:Nat->Bool}(hal:∀p,al p=true\/∀k,k<A.na p->A.aout p k≠0){n:Nat}(h:CmpIs A B al n M){k:KK}(hk:k.1=A.kind)
include hA hB hkk hSA hSB hal h hk
theorem CmpIs.cmp(x y:List Int):IsCmp 500 (rel (rmOf k A)) (rel (rmOf k B)) x y (rel (rmOf k M) x y):=by
 have g:=Ru (k:=k) hA hB hk hkk (al:=al) hal h.len h.lead (λp q f o=>by
  obtain⟨i,hi,e⟩:=List.getElem_of_mem o;exact h.pr i p q f (by rw[h.len]at hi;exact hi) (by rw[List.getElem?_eq_getElem hi,e]))
 obtain⟨l,_,_⟩:=h.vm hA hB hkk hSA hSB;rw[<-h.eq]at g;refine g.rel (m:=500) (λp d s hd j=>?_) (hA.inn k) (hB.inn k) (l.inn k) x y;have c:=hA.arc p d s hd;have u:A.aout p d≠0:=j;have z:=c.o0;have C:=c.o1;exact⟨(A.aout p d-1).toNat,by omega,by show A.aout p d=_;omega⟩
end
end
section
open Go.RowKit Go.Deep
variable{B q:Nat}{w:World}{sv v:Value}{R:Nat->Value}
def Kj{d:Nat}{e:TypeId}{s n:Nat}{xs:List Value}(h:w.ownsRow d e s v n xs)(j:B<=d):w.ownsRow B e s v n xs :=
 ⟨h.1,h.2.imp id (λ⟨g,c,cur,k,i,r⟩=>⟨g,c,cur,k,Nat.le_trans j i,r⟩)⟩
def cpD(D:MD)(i:Nat):MD:={ D with n:=i }
def OwM.push{wr w1 w':World}{i:Nat}{g:Value}{D:MD}{o:Obj}(h:OwM wr B sv (cpD D i) R)(G:B<=wr.heap.size)(u:wr.grownBy w1 none)
  (E:w1.ownsRow wr.heap.size 59 4 v (D.na i) (cat (arc4 D i) (D.na i)))
  (F:w'.ownsRow B 63 2 g (i+1) (cat (st2 D R) i++[.string (D.fin i),v])) (C:(w1.alloc o).grownBy w' sv.ownBlock) :
  OwM w' B g (cpD D (i+1)) (λj=>if j=i then v else R j):=by
 have s:∀j,j<i->∀b,(R j).ownBlock=some b->b<wr.heap.size:=λj k b hb=>(World.ownsRow.lt (h.row j k) b hb).2;have d:∀b,v.ownBlock=some b->wr.heap.size<=b:=λb hb=>(World.ownsRow.lt E b hb).1;refine⟨?_,λj k=>?_,λj l k H p b hb=>?_⟩
 ·have e:cat (st2 (cpD D (i+1)) (λj=>if j=i then v else R j)) (i+1)=cat (st2 D R) i++[.string (D.fin i),v]:=by
   rw[Di]
   congr 1
   ·exact BC λj k=>by simp[st2,cpD,show j≠i by omega]
   simp[st2,cpD]
  show w'.ownsRow B 63 2 g (i+1) (cat _ (i+1));rw[e];exact F
 ·by_cases e:j=i
  ·subst e;show w'.ownsRow B _ 4 (if j=j then v else R j) (D.na j) (cat (arc4 D j) (D.na j))
   rw[ifp rfl];refine AG (World.ownsRow.alloc (Kj E G) o) C (λb hb m=>?_);have:=d b hb;have:=(World.ownsRow.lt h.top b m).2;omega
  have c:j<i:=by have:j<i+1:=k;omega
  show w'.ownsRow B _ 4 (if j=i then v else R j) (D.na j) (cat (arc4 D j) (D.na j))
  rw[ifn e];exact AG (World.ownsRow.alloc (AG (h.row j c) u (λb _=>by simp)) o) C (λb hb=>h.tne c hb)
 have c:j<i+1:=k;have I:l<i+1:=H;by_cases z:j=i
 ·simp only[ifp z]at hb;simp only[ifn (λe:l=i=>p (by omega))];intro m;have:=d b hb;have:=s l (by omega) b m;omega
 simp only[ifn z]at hb;by_cases A:l=i
 ·simp only[ifp A];intro m;have:=d b m;have:=s j (by omega) b hb;omega
 simp only[ifn A];exact h.apart j l (show j<i by omega) (show l<i by omega) p b hb
def MD.setIO(D:MD)(q d:Nat)(x y:Int):MD:={ D with ain:=λi k=>if i=q/\k=d then x else D.ain i k,aout:=λi k=>if i=q/\k=d then y else D.aout i k }
theorem OwM.setIO{w:World}{B b ac q d:Nat}{sv:Value}{D:MD}{R:Nat->Value}(h:OwM w B sv D R)(m:q<D.n)(hd:d<D.na q)(l:R q=.slice (some (Ad b 0)) (D.na q) ac)(x y:Int):
  OwM ((w.setCell (Ad b (d*4)) (.int .i64 x)).setCell (Ad b (d*4+1)) (.int .i64 y)) B sv (D.setIO q d x y) R:=by
 have hb:(R q).ownBlock=some b:=by rw[l];rfl
 have u:sv.ownBlock≠some b:=h.tne m hb;refine⟨BG (p:=(Ad b (d*4+1))) (BG (p:=(Ad b (d*4))) h.top u _) u _,λi hi=>?_,h.apart⟩;by_cases e:i=q
 ·subst e;have o:=h.row i hi;rw[l]at o;have c:=EA (EA o (d*4) (.int .i64 x)) (d*4+1) (.int .i64 y);have z:((cat (arc4 D i) (D.na i)).set (d*4) (.int .i64 x)).set (d*4+1) (.int .i64 y)=cat (arc4 (D.setIO i d x y) i) (D.na i):=by
   have s:=DT (DO D i) (j:=0) (by omega) (.int .i64 x) hd;rw[Nat.add_zero]at s;have A:∀k,((λk=>if k=d then (arc4 D i d).set 0 (.int .i64 x) else arc4 D i k) k).length=4:=λk=>by
    dsimp only;split<;>rfl
   rw[s,DT A (by omega) _ hd];refine BC λk C=>?_;by_cases e:k=d
   ·subst e;simp[arc4,MD.setIO]
   simp[arc4,MD.setIO,e]
  rw[z,<-l]at c;exact c
 have c:=BG (p:=(Ad b (d*4+1))) (BG (p:=(Ad b (d*4))) (h.row i hi) (λg=>h.apart i q hi m e b g hb) (.int .i64 x)) (λg=>h.apart i q hi m e b g hb) (.int .i64 y);show World.ownsRow _ B _ 4 (R i) (D.na i) (cat (arc4 (D.setIO q d x y) i) (D.na i));rw[BC (d:=arc4 D i) (λk C=>by simp[arc4,MD.setIO,e])];exact c
def MD.symP(φ:Int->Int->Int × Int)(D:MD)(q d:Nat):MD:={ D with ain:=λi k=>if i<q\/i=q/\k<d then (φ (D.ain i k) (D.aout i k)).1 else D.ain i k,aout:=λi k=>if i<q\/i=q/\k<d then (φ (D.ain i k) (D.aout i k)).2 else D.aout i k }
theorem Xn(φ:Int->Int->Int × Int)(D:MD):D.symP φ 0 0=D:=by
 unfold MD.symP;simp
def Xm(φ:Int->Int->Int × Int)(D:MD)(q d:Nat):(D.symP φ q d).setIO q d (φ (D.ain q d) (D.aout q d)).1 (φ (D.ain q d) (D.aout q d)).2=D.symP φ q (d+1):=by
 unfold MD.symP MD.setIO
 congr 1<;>funext i k<;>by_cases e:i=q/\k=d
 ·obtain⟨rfl,rfl⟩:=e;simp
 ·simp only[ifn e];by_cases c:i<q\/i=q/\k<d
  ·rw[ifp c,ifp (by omega)]
  rw[ifn c,ifn (by omega)]
 ·obtain⟨rfl,rfl⟩:=e;simp
 simp only[ifn e];by_cases c:i<q\/i=q/\k<d
 ·rw[ifp c,ifp (by omega)]
 rw[ifn c,ifn (by omega)]
theorem Pd(φ:Int->Int->Int × Int)(D:MD)(q d:Nat):(D.symP φ q d).ain q d=D.ain q d/\(D.symP φ q d).aout q d=D.aout q d:=by
 unfold MD.symP;simp
def OwM.cgr{D E:MD}(h:OwM w B sv D R)(hn:E.n=D.n)(hf:E.fin=D.fin)(g:E.na=D.na)(l:∀i k,i<D.n->k<D.na i->arc4 D i k=arc4 E i k):OwM w B sv E R:=by
 refine⟨?_,λi hi=>?_,λi j hi m=>h.apart i j (by rw[<-hn];exact hi) (by rw[<-hn];exact m)⟩
 ·rw[hn,BC (d:=st2 D R) (λi hi=>by unfold st2;rw[hf])];exact h.top
 have c:i<D.n:=by rw[<-hn];exact hi
 rw[g,BC (d:=arc4 D i) (λk o=>(l i k c o).symm)];exact h.row i c
def OwM.symRow{D:MD}{φ:Int->Int->Int × Int}(h:OwM w B sv (D.symP φ q (D.na q)) R):OwM w B sv (D.symP φ (q+1) 0) R :=
 h.cgr rfl rfl rfl λi k _ d=>by
  have c:k<D.na i:=d;have e:(i<q\/i=q/\k<D.na q)=(i<q+1\/i=q+1/\k<0):=propext ⟨λh=>by omega,λh=>by
   rcases h with h|h
   ·by_cases e:i=q
    ·subst e;exact .inr ⟨rfl,c⟩
    exact .inl (by omega)
   omega⟩
  unfold arc4 MD.symP;simp only[e]
theorem OwM.symAll{D:MD}{φ:Int->Int->Int × Int}(h:OwM w B sv (D.symP φ q 0) R)(d:q=D.n):OwM w B sv (D.sym φ) R :=
 h.cgr rfl rfl rfl λi k hi _=>by
  have c:i<D.n:=hi;have e:(i<q\/i=q/\k<0)=True:=propext ⟨λ_=>trivial,λ_=>.inl (by omega)⟩;unfold arc4 MD.symP MD.sym;simp only[e,if_true]
end
section
open Go CSR
def SP{A B:MD}(j:A.n+B.n<=5)(i:Ai A A.n+Ai B B.n<=10):¬3000<2*(A.n*B.n)/\¬30000<2*(A.n*B.n)*bnd A B:=by
 have d:A.n*B.n<=5*5:=Nat.mul_le_mul (by omega) (by omega);have g:Ai A A.n*Ai B B.n<=10*10:=Nat.mul_le_mul (by omega) (by omega);have c:bnd A B<=120:=by unfold bnd;omega
 have h:2*(A.n*B.n)*bnd A B<=50*120:=Nat.mul_le_mul (by omega) c;exact⟨by omega,by omega⟩
def BadC.few{A B:MD}(h:BadC A B)(i:A.n+B.n<=5)(g:Ai A A.n+Ai B B.n<=10):BadW A B:=by
 obtain⟨c,d⟩:=SP i g
 rcases h with h|h|h
 ·exact h
 ·exact absurd h c
 exact absurd h d
end
section
open Go.RowKit Go.Deep
instance (v:V):Decidable (fitV v):=by cases v<;>unfold fitV<;>infer_instance
def tb2(a b c d:ByteArray)(i j:Nat):ByteArray:=if i=0 then (if j=0 then a else b) else (if j=0 then c else d)
def k1:KK:=⟨1,.inl rfl⟩
def k2:KK:=⟨2,.inr (.inl rfl)⟩
def k3:KK:=⟨3,.inr (.inr rfl)⟩
def X2:=tb2 ⟨#[49,47,50]⟩ ⟨#[49,47,52]⟩ ⟨#[48]⟩ ⟨#[49,47,51]⟩
end
section
open Go.RowKit
set_option exponentiation.threshold 2000
variable{T:Nat}{v:V}{k:Int}
def bd(T:Nat):V->Prop
 | .fin q=>q.num.natAbs+q.den<=T
 |_=>True
def bd.fit(h:bd T v)(d:T<=10 ^ 399):fitV v:=by
 have g:(10:Nat) ^ 399<10 ^ 400:=Nat.pow_lt_pow_right (by omega) (by omega);cases v with
 |fin q =>
  have c:q.num.natAbs+q.den<=T:=h;exact EW.2 ⟨Nat.lt_of_le_of_lt (Nat.le_trans (Nat.le_add_right _ _) (Nat.le_trans c d)) g,Nat.lt_of_le_of_lt (Nat.le_trans (Nat.le_add_left _ _) (Nat.le_trans c d)) g⟩
 |inf=>trivial
 |low=>trivial
def Lx{n:Int}{d:Nat}(hd:d≠0)(h:n.natAbs+d<=T):bd T (.fin (mkRat n d)):=by
 obtain⟨c,g⟩:=Na (n:=n) hd;show (mkRat n d).num.natAbs+(mkRat n d).den<=T;omega
def QK(c:1<=T):bd T (zeroV k):=by
 unfold zeroV;split
 ·trivial
 show (0:Rat).num.natAbs+(0:Rat).den<=T;simpa using c
def QJ{S:Nat}{w:V}(h:bd S v)(i:bd T w)(d:1<=S)(g:1<=T):bd (S*T) (Ag k v w):=by
 unfold Ag
 split
 ·exact QK (Nat.mul_pos d g)
 cases v<;>cases w<;>try trivial
 rename_i x y _;have j:x.num.natAbs+x.den<=S:=h;have l:y.num.natAbs+y.den<=T:=i;have m:=Nat.mul_le_mul j l
 try simp only
 split
 ·rw[Rat.add_def'];refine Lx (Nat.mul_ne_zero x.den_nz y.den_nz) ?_;have c:=Int.natAbs_add_le (x.num*y.den) (y.num*x.den);rw[Int.natAbs_mul,Int.natAbs_mul,Int.natAbs_natCast,Int.natAbs_natCast]at c;have:(x.num.natAbs+x.den)*(y.num.natAbs+y.den)=x.num.natAbs*y.num.natAbs+(x.num.natAbs*y.den+y.num.natAbs*x.den+x.den*y.den):=by grind
  omega
 rw[Rat.mul_def'];refine Lx (Nat.mul_ne_zero x.den_nz y.den_nz) ?_;rw[Int.natAbs_mul];have:(x.num.natAbs+x.den)*(y.num.natAbs+y.den)=x.num.natAbs*y.num.natAbs+(x.num.natAbs*y.den+y.num.natAbs*x.den+x.den*y.den):=by grind
 omega
def sN(f:Nat->Nat):Nat->Nat
 |0=>0
 |n+1=>sN f n+f n
def fr(v:V)(a d:Nat):Prop:=v=.inf\/v=.fin ((a:Rat) / (d:Rat))
end
section
open Go.RowKit
set_option exponentiation.threshold 2000
end
section
open Go.RowKit
set_option exponentiation.threshold 2000
def dgn(s:ByteArray)(i:Nat):Nat:=((bts s).take i).countP dgt
theorem RP(s:ByteArray):dgn s s.size=(bts s).countP dgt:=by unfold dgn;rw[List.take_of_length_le (by rw[Ao];exact nlr)]
theorem LQ(n:Nat):(dec n).countP dgt=(dec n).length:=List.countP_eq_length.2 λa c=>List.all_eq_true.1 (CV n) a c
def RV{q:Rat}(h:(txtL q).countP dgt<=4):bd 10000 (.fin q):=by
 show q.num.natAbs+q.den<=10000;unfold txtL at h;have c:(if negQ q then [45] else []:List UInt8).countP dgt=0:=by cases negQ q<;>decide
 have g:(dec q.num.natAbs).length<=4->q.num.natAbs<10 ^ (dec q.num.natAbs).length:=λ_=>(BJ.1 nlr).1;have p1:=ES q.num.natAbs;rw[List.countP_append,List.countP_append,c,LQ]at h;by_cases hd:q.den=1
 ·rw[ifp hd]at h;have:=g (by simpa using h);have d:(10:Nat) ^ (dec q.num.natAbs).length<=10 ^ 4:=Nat.pow_le_pow_right (by omega) (by simpa using h);omega
 rw[ifn hd,List.countP_cons,LQ,ifn (by decide)]at h;have p2:=ES q.den;have i:q.num.natAbs<10 ^ 3:=(BJ.1 (show (dec q.num.natAbs).length<=3 by omega)).1;have d:q.den<10 ^ 3:=(BJ.1 (show (dec q.den).length<=3 by omega)).1;omega
def WH{k:KK}{s:ByteArray}{x:RK k}(h:Is k 0 s x)(c:dgn s s.size<=4):bd 10000 x.1:=by
 obtain⟨d,_⟩:=Dt.1 h.vprs;obtain⟨rfl,_⟩:=Gc d;rw[RP]at c;generalize x.1=v at c;cases v with
 |inf=>trivial
 |low=>trivial
 |fin q =>
  refine RV ?_;have:bts (vtxt (.fin q))=txtL q:=AI _;rw[this]at c;exact c
end
section
open Go.RowKit Go.Deep
def cnZ(k:Int)(X:Nat->Nat->ByteArray)(i j:Nat):Nat:=if X i j=Ak k then 0 else 1
def cQ(k:Int)(n:Nat)(X:Nat->Nat->ByteArray)(q d:Nat):Nat:=sN (λi=>sN (cnZ k X i) n) q+sN (cnZ k X q) d

theorem Lq{D:MD}(hs:MSz D):∀q,Ai D q<=q*140737488355328
 |0=>nlr
 |q+1=>by
  have h:=Lq hs q;have h2:=hs.na q;show Ai D q+D.na q<=_;omega
def Qz{D:MD}{v:Value}(w:World)(hM:Ma none w v D)(R:MSz D)(hn:D.n<=100):Calls prog 24 #[v] w (λr w'=>r=.returned (.int .i64 (Ai D D.n:Nat))/\Below w.heap.size w w'):=by
 obtain⟨sv,rfl,W⟩:=hM;obtain⟨a,l,b,U,A,C,BB,O,rfl,K,hc,hm,hb,k⟩:=W.open;unfold maxLen at hm;clear W;have u:=BoxM.new w D (.slice a D.n l);have s:=LA w (.cells #[.int .i64 D.kind,.int .i64 D.start,.string D.lead,.slice a D.n l] 25);have I:=qh<|λq=>Lq R q;have J:=qh R.na;clear R;replace K:=qh K;replace hb:=qh hb;replace k:=qh k;have g:=qh u;clear u;have z:=qh s;clear s
 go_enter func24,ntmps24
 go_wp2_with fail
 obtain⟨Z,o⟩:=exq<|w.alloc (.cells #[.int .i64 D.kind,.int .i64 D.start,.string D.lead,.slice a D.n l] 25);obtain⟨T,E⟩:=exq<|w.heap.size;rw[<-o,<-E]at g;rw[<-o]at z;rw[<-o,<-E];clear o E
 go_loopw [3,4] (λc i wr=>∃q m:Nat,q<=D.n/\i=.int .i64 (q:Int)/\c=.int .i64 (m:Int)/\m=Ai D q/\BoxM wr T D (.slice a D.n l)/\Below w.heap.size w wr) (λ_ i _=>D.n-(intOf i).toNat)
 case atStart=>exact⟨0,0,Nat.zero_le _,rfl,rfl,rfl,g.o,z.o⟩
 obtain⟨q,m,hq,rfl,rfl,h,B,d⟩:=hrel;clear g z;have m3:=B.c3;have g:=qh B;clear B;replace d:=qh d;by_cases Q:q<D.n
 ·have a2:(q:Int)<(D.n:Int):=by omega
  have Y:(0:Int)<=(q:Int):=by omega
  obtain rfl:=K.o (by omega);have L:=(hb.o (by omega)).1;obtain⟨k1,k2,k3,k4,_⟩:=k.o q Q;generalize A q=aq at k2;have c1:=(d.o.cell (p:=(Ad b (U+q*2+1))) L).trans k2;clear k1 k2;have H:=I.o q;have P:=J.o q;have N:m<=100*140737488355328:=Nat.le_trans (Nat.le_of_eq h) (Nat.le_trans H (Nat.mul_le_mul_right _ (by omega)));clear H;have S:IntKind.i64.wrap ((m:Int)+(D.na q:Int))=(m:Int)+(D.na q:Int):=by rw[IntKind.wrap_i64];omega
  have F:m+D.na q=Ai D (q+1):=by rw[h];rfl
  have X:(D.na q:Int)<=9223372036854775807:=by omega
  replace F:=qh F;clear h N P;go_wp2;go_roundw
  case rel=>exact⟨q+1,m+D.na q,by omega,by go_num,by go_num,F.o,g.o,d.o⟩
  simp[intOf];omega
 have G:q=D.n:=by omega
 have a1:¬((q:Int)<(D.n:Int)):=by omega
 have j:m=Ai D D.n:=by rw[h,G]
 replace j:=qh j;clear h;replace G:=qh G;go_wp2;go_ret
 first|exact⟨rfl,d.o⟩|exact⟨BS (by rw[j.o]),d.o⟩
structure ShM(D:MD):Prop where
 lead:dgn D.lead D.lead.size<=4
 st:∀i,i<D.n->dgn (D.fin i) (D.fin i).size<=4/\∀d,d<D.na i->dgn (D.aw i d) (D.aw i d).size<=4
def LitL(n:Nat)(Ds:Nat->MD):Prop:=sM (λi=>(Ds i).n) n<=5/\sM (λi=>Ai (Ds i) (Ds i).n) n<=10/\∀i,i<n->ShM (Ds i)
end
section
open Go.RowKit Go.Deep
structure WG(w0 wo w:World)(cb c8 xb yb:Nat)(D:MD)(sv stv xv yv:Value)(e:Nat):Prop where
 hb:Below w0.heap.size w0 w
 gs:wo.grownBy w (some cb)
 sc:Scl w cb D sv stv e
 k8:Bx w c8 114 (.pointer (some (Ad cb 0)))
 kx:Bx w xb 26 xv
 ky:Bx w yb 26 yv
 lc:w0.heap.size<=cb
 lo:w0.heap.size<=wo.heap.size
namespace WG
variable{w0 wo w w':World}{cb c8 xb yb:Nat}{D:MD}{sv stv xv yv:Value}{e:Nat}
end WG
end
section
open Go.RowKit Go.Deep

end
end Go.Proofs.YtpldocnhbdlgfaaGreatDoor
