/- Parts. -/
import Derived.Test.YtpldocnhbdlgfaaGreatDoorPc27
import Derived.Test.YtpldocnhbdlgfaaGreatDoorPc26
namespace Go.Proofs.YtpldocnhbdlgfaaGreatDoor
set_option maxRecDepth 100000
set_option linter.all false
set_option maxHeartbeats 16000000
open Go Tryz
section
open Go CSR
variable{i j m n p q:Nat}{fl:Bool}{A B:MD}{v w:ByteArray}
abbrev Plc:=Nat × Nat × Bool
abbrev ArP:=Int × Int × ByteArray × Plc
def posP:List Plc->Plc->Nat
 | [],_=>0
 |a::t,x=>if a=x then 0 else posP t x+1
theorem Hj{x:Plc}:∀{l:List Plc},x ∈ l->l[posP l x]?=some x
 | [],h=>by cases h
 |a::t,h=>by
  unfold posP;by_cases e:a=x
  ·rw[ifp e,e];rfl
  rw[ifn e]
  rcases List.mem_cons.1 h with h|h
  ·exact absurd h.symm e
  exact Hj (l:=t) h
def Hk{x:Plc}{l:List Plc}(h:x ∈ l):posP l x<l.length:=by
 have d:=Hj h
 rcases Nat.lt_or_ge (posP l x) l.length with c|c
 ·exact c
 rw[List.getElem?_eq_none c]at d;cases d
theorem Hl{x:Plc}:∀{l:List Plc},x ∉ l->posP l x=l.length
 | [],_=>rfl
 |a::t,h=>by
  unfold posP;rw[ifn (λe=>h (by rw[e];simp)),Hl (l:=t) (λe=>h (by simp[e]))];rfl
theorem JO{x:Plc}(m:List Plc):∀{l:List Plc},x ∈ l->posP (l++m) x=posP l x
 | [],h=>by cases h
 |a::t,h=>by
  show (if a=x then 0 else posP (t++m) x+1)=if a=x then 0 else posP t x+1
  by_cases e:a=x
  ·rw[ifp e,ifp e]
  rw[ifn e,ifn e]
  rcases List.mem_cons.1 h with h|h
  ·exact absurd h.symm e
  rw[JO m (l:=t) h]
theorem JP{x:Plc}:∀{l:List Plc} {i:Nat},l.Nodup->l[i]?=some x->posP l x=i
 | [],i,_,h=>by simp at h
 |a::t,0,_,h=>by
  have e:a=x:=by simpa using h
  unfold posP;rw[ifp e]
 |a::t,i+1,hn,h=>by
  have h1:t[i]?=some x:=by simpa using h
  have hx:x ∈ t:=List.mem_of_getElem? h1;unfold posP;rw[ifn (λe=>(List.nodup_cons.1 hn).1 (by rw[e];exact hx)),JP (l:=t) (List.nodup_cons.1 hn).2 h1]
section
variable(A B:MD)(al:Bool)(p q:Nat)(fl:Bool)
def tmS(v w:ByteArray):ByteArray:=(Ah A.kind v w).1
def mtL(k:Nat):Nat->List ArP
 |0=>[]
 |j+1=>mtL k j++(if B.ain q j=A.aout p k then [(A.ain p k,B.aout q j,tmS A (A.aw p k) (B.aw q j),((A.ato p k).toNat,(B.ato q j).toNat,false))] else [])
def lfL:Nat->List ArP
 |0=>[]
 |k+1=>lfL k++(if A.aout p k=0 then (if fl then [] else [(A.ain p k,0,A.aw p k,((A.ato p k).toNat,q,false))]) else mtL A B p q k (B.na q))
def rtL:Nat->List ArP
 |0=>[]
 |j+1=>rtL j++(if B.ain q j=0 then [(0,B.aout q j,B.aw q j,(p,(B.ato q j).toNat,al))] else [])
def arL:List ArP:=lfL A B p q fl (A.na p)++rtL B al p q (B.na q)
def finT:ByteArray:=if A.fin p=⟨#[]⟩\/B.fin q=⟨#[]⟩ then ⟨#[]⟩ else tmS A (A.fin p) (B.fin q)
variable{A B p q}in
theorem Mp(h:A.fin p=⟨#[]⟩\/B.fin q=⟨#[]⟩):finT A B p q=⟨#[]⟩:=ifp h
variable{A B p q}in
theorem SR(h:A.fin p≠⟨#[]⟩)(c:B.fin q≠⟨#[]⟩):finT A B p q=tmS A (A.fin p) (B.fin q):=ifn<|λe=>e.elim h c
def PrOk:Prop:=(A.fin p≠⟨#[]⟩->B.fin q≠⟨#[]⟩->(Ah A.kind (A.fin p) (B.fin q)).2=0)/\∀k j,k<A.na p->j<B.na q->A.aout p k≠0->B.ain q j=A.aout p k->(Ah A.kind (A.aw p k) (B.aw q j)).2=0
end
def numP(S:List Plc × MD)(x:Plc):List Plc × MD:=if x ∈ S.1 then S else (S.1++[x],S.2.state ⟨#[]⟩)
def addP(n:Nat)(S:List Plc × MD)(r:ArP):List Plc × MD:=((numP S r.2.2.2).1,(numP S r.2.2.2).2.arc n r.1 r.2.1 r.2.2.1 (posP S.1 r.2.2.2:Nat))
theorem Li{S:List Plc × MD}{r:ArP}(h:r.2.2.2 ∈ S.1):addP n S r=(S.1,S.2.arc n r.1 r.2.1 r.2.2.1 (posP S.1 r.2.2.2:Nat)):=by unfold addP numP;rw[ifp h]
theorem Lh{S:List Plc × MD}{r:ArP}(h:r.2.2.2 ∉ S.1):addP n S r=(S.1++[r.2.2.2],(S.2.state ⟨#[]⟩).arc n r.1 r.2.1 r.2.2.1 (S.1.length:Nat)):=by unfold addP numP;rw[ifn h,Hl h]
def addL(n:Nat)(S:List Plc × MD)(L:List ArP):List Plc × MD:=L.foldl (addP n) S
theorem Qm(n:Nat)(S:List Plc × MD)(L M:List ArP):addL n S (L++M)=addL n (addL n S L) M:=List.foldl_append
def finP(A B:MD)(p q n:Nat)(D:MD):MD:=if A.fin p=⟨#[]⟩\/B.fin q=⟨#[]⟩ then D else D.setFin n (tmS A (A.fin p) (B.fin q))
def CW(A B:MD)(al:Nat->Bool)(n:Nat)(S:List Plc × MD):List Plc × MD :=
 match S.1[n]? with
 |none=>S
 |some (p,q,fl)=>addL n (S.1,finP A B p q n S.2) (arL A B (al p) p q fl)
def it0(A B:MD):List Plc × MD:=([(A.start.toNat,B.start.toNat,false)],(BO A.kind 0 (tmS A A.lead B.lead)).state ⟨#[]⟩)
def itP(A B:MD)(al:Nat->Bool):Nat->List Plc × MD
 |0=>it0 A B
 |n+1=>CW A B al n (itP A B al n)
theorem FK{A B:MD}{al:Nat->Bool}{n:Nat}(h:(itP A B al n).1.length<=n):∀m,itP A B al (n+m)=itP A B al n
 |0=>rfl
 |m+1=>by
  have ih:=FK h m;show CW A B al (n+m) (itP A B al (n+m))=_;rw[ih];unfold CW;rw[List.getElem?_eq_none (by omega)]
theorem Tu{al:Nat->Bool}(hn:(itP A B al n).1.length<=n)(c:(itP A B al m).1.length<=m):itP A B al n=itP A B al m:=by
 rcases Nat.le_total n m with h|h
 ·rw[<-Nat.add_sub_cancel' h];exact(FK hn _).symm
 rw[<-Nat.add_sub_cancel' h];exact FK c _
section
variable{k:KK}
def sumL(l:List Plc)(F:Int->Int->RK k->Nat->RK k):List ArP->RK k
 | []=>zero
 |r::t=>F r.1 r.2.1 (wval k r.2.2.1) (posP l r.2.2.2)+sumL l F t
theorem EF(l:List Plc)(F:Int->Int->RK k->Nat->RK k)(M:List ArP):∀L:List ArP,sumL l F (L++M)=sumL l F L+sumL l F M
 | []=>(z0 _).symm
 |r::t=>by
  show _+sumL l F (t++M)=_+sumL l F t+sumL l F M;rw[EF l F M t,aA]
theorem Gk(l:List Plc)(F:Int->Int->RK k->Nat->RK k)(r:ArP):sumL l F [r]=F r.1 r.2.1 (wval k r.2.2.1) (posP l r.2.2.2):=a0 _
theorem Kx(l m:List Plc)(F:Int->Int->RK k->Nat->RK k):∀L:List ArP,(∀r ∈ L,r.2.2.2 ∈ l)->sumL (l++m) F L=sumL l F L
 | [],_=>rfl
 |r::t,h=>by
  show _+sumL (l++m) F t=_+sumL l F t;rw[Kx l m F t (λr hr=>h r (by simp[hr])),JO m (h r (by simp))]
structure Jp(k:KK)(A B:MD)(al:Nat->Bool)(n:Nat)(L:List ArP)(S:List Plc × MD):Prop where
 nd:S.1.Nodup
 len:S.2.n=S.1.length
 ok:∀x ∈ S.1,x.1<A.n/\x.2.1<B.n
 st:S.1[0]?=some (A.start.toNat,B.start.toNat,false)
 hd:S.2.kind=A.kind/\S.2.start=0/\S.2.lead=tmS A A.lead B.lead
 done:∀i p q fl,i<n->S.1[i]?=some (p,q,fl)->S.2.fin i=finT A B p q/\(∀r ∈ arL A B (al p) p q fl,r.2.2.2 ∈ S.1)/\∀F,asum k S.2 i F=sumL S.1 F (arL A B (al p) p q fl)
 cur:(∀r ∈ L,r.2.2.2 ∈ S.1)/\∀F,asum k S.2 n F=sumL S.1 F L
 late:∀i,n<i->S.2.fin i=⟨#[]⟩/\S.2.na i=0
theorem Jp.start{A B:MD}{al:Nat->Bool}(c:A.start.toNat<A.n)(d:B.start.toNat<B.n):Jp k A B al 0 [] (it0 A B) where
 nd:=by simp[it0]
 len:=rfl
 ok:=λx h=>by
  have e:x=(A.start.toNat,B.start.toNat,false):=by simpa [it0] using h
  rw[e];exact⟨c,d⟩
 st:=rfl
 hd:=⟨rfl,rfl,rfl⟩
 done:=λi p q j hi _=>absurd hi (Nat.not_lt_zero _)
 cur:=⟨λr g=>(by cases g),λF=>rfl⟩
 late:=λi hi=>by
  exact⟨ifn (show ¬i=0 by omega),ifn (show ¬i=0 by omega)⟩
theorem Jp.fin{A B:MD}{al:Nat->Bool}{n p q:Nat}{fl:Bool}{S:List Plc × MD}(h:Jp k A B al n [] S):Jp k A B al n [] (S.1,finP A B p q n S.2):=by
 unfold finP
 split
 ·exact h
 exact { h with
  done:=λi m o c hi l=>by
   obtain⟨d,g,j⟩:=h.done i m o c hi l;refine⟨?_,g,j⟩;show (if i=n then _ else S.2.fin i)=_
   rw[ifn (by omega)];exact d
  late:=λi hi=>⟨by show (if i=n then _ else S.2.fin i)=_;rw[ifn (by omega)];exact(h.late i hi).1,(h.late i hi).2⟩ }
theorem Jp.add{al:Nat->Bool}{L:List ArP}{S:List Plc × MD}(h:Jp k A B al n L S)(hn:n<S.1.length){r:ArP}(G:r.2.2.2.1<A.n/\r.2.2.2.2.1<B.n):Jp k A B al n (L++[r]) (addP n S r)/\n<(addP n S r).1.length:=by
 by_cases l:r.2.2.2 ∈ S.1
 ·rw[Li l];refine⟨{ nd:=h.nd,len:=h.len,ok:=h.ok,st:=h.st,hd:=h.hd,done:=λi p q m hi g=>?_,cur:=⟨λj d=>?_,λF=>?_⟩,late:=λi hi=>⟨(h.late i hi).1,?_⟩ },hn⟩
  ·obtain⟨c,o,u⟩:=h.done i p q m hi g;refine⟨c,o,λF=>?_⟩;rw[GD,ifn (by omega),a0];exact u F
  ·rcases List.mem_append.1 d with c|c
   ·exact h.cur.1 j c
   have e:j=r:=by simpa using c
   rw[e];exact l
  ·rw[GD,ifp rfl,EF,Gk,h.cur.2 F];rfl
  show (if i=n then _ else S.2.na i)=0
  rw[ifn (by omega)];exact(h.late i hi).2
 rw[Lh l];have H:S.1.length=S.2.n:=h.len.symm;refine⟨{ nd:=?_,len:=?_,ok:=λx E=>?_,st:=?_,hd:=h.hd,done:=λi p q m hi g=>?_,cur:=⟨λj d=>?_,λF=>?_⟩,late:=λi hi=>⟨?_,?_⟩ },by show n<(S.1++[r.2.2.2]).length;rw[List.length_append];omega⟩
 ·refine List.nodup_append.2 ⟨h.nd,by simp,λa z b hb=>?_⟩;have e:b=r.2.2.2:=by simpa using hb
  intro s;exact l (by rw[<-e,<-s];exact z)
 ·show S.2.n+1=(S.1++[r.2.2.2]).length;rw[List.length_append,h.len];rfl
 ·rcases List.mem_append.1 E with c|c
  ·exact h.ok x c
  have e:x=r.2.2.2:=by simpa using c
  rw[e];exact G
 ·show (S.1++[r.2.2.2])[0]?=_;rw[List.getElem?_append_left (by omega)];exact h.st
 ·have C:i<S.1.length:=by omega
  have D:S.1[i]?=some (p,q,m):=by rw[<-g];exact(List.getElem?_append_left C).symm
  obtain⟨c,o,u⟩:=h.done i p q m hi D;refine⟨?_,λj d=>List.mem_append_left _ (o j d),λF=>?_⟩
  ·show (if i=S.2.n then _ else S.2.fin i)=_
   rw[ifn (by omega)];exact c
  rw[GD,ifn (by omega),a0,Lv _ _ _ (by omega),Kx _ _ F _ o];exact u F
 ·rcases List.mem_append.1 d with c|c
  ·exact List.mem_append_left _ (h.cur.1 j c)
  have e:j=r:=by simpa using c
  rw[e];simp
 ·rw[GD,ifp rfl,Lv _ _ _ (by omega),EF,Gk,Kx _ _ F _ h.cur.1,h.cur.2 F]
  congr 1
  have e:posP (S.1++[r.2.2.2]) r.2.2.2=S.1.length:=JP (by
   refine List.nodup_append.2 ⟨h.nd,by simp,λa z b hb=>?_⟩;have e:b=r.2.2.2:=by simpa using hb
   intro s;exact l (by rw[<-e,<-s];exact z)) (by simp)
  rw[e];rfl
 ·show (if i=S.2.n then _ else S.2.fin i)=_
  split
  ·rfl
  exact(h.late i hi).1
 show (if i=n then _ else if i=S.2.n then 0 else S.2.na i)=0
 rw[ifn (by omega)]
 split
 ·rfl
 exact(h.late i hi).2
theorem Jp.more{A B:MD}{al:Nat->Bool}{n:Nat}:∀(M:List ArP) {L:List ArP} {S:List Plc × MD},Jp k A B al n L S->n<S.1.length->(∀r ∈ M,r.2.2.2.1<A.n/\r.2.2.2.2.1<B.n)->Jp k A B al n (L++M) (addL n S M)/\n<(addL n S M).1.length
 | [],L,S,h,hn,_=>by rw[List.append_nil];exact⟨h,hn⟩
 |r::t,L,S,h,hn,hM=>by
  obtain⟨h1,h2⟩:=h.add hn (hM r (by simp));have h3:=Jp.more t h1 h2 (λr' hr'=>hM r' (by simp[hr']));rw[List.append_assoc]at h3;exact h3
end
section
variable{A B:MD}(hA:VM A)(hB:VM B)
include hA hB
theorem Qx{al:Bool}(o:p<A.n)(s:q<B.n):∀r ∈ arL A B al p q fl,r.2.2.2.1<A.n/\r.2.2.2.2.1<B.n:=by
 have i:∀k,k<A.na p->(A.ato p k).toNat<A.n:=λk g=>by have d:=hA.arc p k o g;have:=d.t0;have:=d.t1;omega
 have hb:∀j,j<B.na q->(B.ato q j).toNat<B.n:=λj D=>by have d:=hB.arc q j s D;have:=d.t0;have:=d.t1;omega
 have u:∀k,k<A.na p->∀m,m<=B.na q->∀r ∈ mtL A B p q k m,r.2.2.2.1<A.n/\r.2.2.2.2.1<B.n:=λk g m=>by
  induction m with
  |zero=>intro _ r c;cases c
  |succ m ih =>
   intro l r c
   rcases List.mem_append.1 c with h|h
   ·exact ih (by omega) r h
   split at h
   ·have e:=List.mem_singleton.1 h;rw[e];exact⟨i k g,hb m (by omega)⟩
   cases h
 have z:∀m,m<=A.na p->∀r ∈ lfL A B p q fl m,r.2.2.2.1<A.n/\r.2.2.2.2.1<B.n:=λm=>by
  induction m with
  |zero=>intro _ r c;cases c
  |succ m ih =>
   intro l r c
   rcases List.mem_append.1 c with h|h
   ·exact ih (by omega) r h
   split at h
   ·split at h
    ·cases h
    have e:=List.mem_singleton.1 h;rw[e];exact⟨i m (by omega),s⟩
   exact u m (by omega) _ nlr r h
 have C:∀m,m<=B.na q->∀r ∈ rtL B al p q m,r.2.2.2.1<A.n/\r.2.2.2.2.1<B.n:=λm=>by
  induction m with
  |zero=>intro _ r c;cases c
  |succ m ih =>
   intro l r c
   rcases List.mem_append.1 c with h|h
   ·exact ih (by omega) r h
   split at h
   ·have e:=List.mem_singleton.1 h;rw[e];exact⟨o,hb m (by omega)⟩
   cases h
 intro r c
 rcases List.mem_append.1 c with h|h
 ·exact z _ nlr r h
 exact C _ nlr r h
theorem Jp.leave{k:KK}{al:Nat->Bool}{S:List Plc × MD}(h:Jp k A B al n [] S)(l:S.2.fin n=⟨#[]⟩)(d:S.1[n]?=some (p,q,fl)):Jp k A B al (n+1) [] (CW A B al n S)/\(CW A B al n S).2.fin (n+1)=⟨#[]⟩:=by
 have z:n<S.1.length:=by
  rcases Nat.lt_or_ge n S.1.length with c|c
  ·exact c
  rw[List.getElem?_eq_none c]at d;cases d
 obtain⟨L,N⟩:=h.ok _ (List.mem_of_getElem? d);have e:CW A B al n S=addL n (S.1,finP A B p q n S.2) (arL A B (al p) p q fl):=by unfold CW;rw[d]
 rw[e];obtain⟨c,H⟩:=Jp.more (arL A B (al p) p q fl) (h.fin (p:=p) (q:=q) (fl:=fl)) z (Qx hA hB L N);rw[List.nil_append]at c;have keep:∀(M:List ArP) (S:List Plc × MD),n<S.1.length->S.2.n=S.1.length->(addL n S M).1[n]?=S.1[n]?/\(addL n S M).2.fin n=S.2.fin n:=λM=>by
  induction M with
  |nil=>intro S _ _;exact⟨rfl,rfl⟩
  |cons r t ih =>
   intro S s u;show (addL n (addP n S r) t).1[n]?=_/\(addL n (addP n S r) t).2.fin n=_;by_cases d:r.2.2.2 ∈ S.1
   ·rw[Li d];exact ih _ s u
   rw[Lh d];obtain⟨I,J⟩:=ih (S.1++[r.2.2.2],(S.2.state ⟨#[]⟩).arc n r.1 r.2.1 r.2.2.1 (S.1.length:Nat)) (by show n<(S.1++[r.2.2.2]).length;rw[List.length_append];omega) (by show S.2.n+1=(S.1++[r.2.2.2]).length;rw[List.length_append,u];rfl);refine⟨I.trans (List.getElem?_append_left s),J.trans ?_⟩;show (if n=S.2.n then _ else S.2.fin n)=_
   rw[ifn (by omega)]
 have m:(finP A B p q n S.2).n=S.1.length:=by unfold finP;split<;>exact h.len
 obtain⟨k1,k2⟩:=keep (arL A B (al p) p q fl) (S.1,finP A B p q n S.2) z m;obtain⟨T,K⟩:=exq<|addL n (S.1,finP A B p q n S.2) (arL A B (al p) p q fl);rw[<-K]at c H k1 k2 ⊢;refine⟨{ c with done:=λi C D j hi g=>?_,cur:=⟨λr O=>(by cases O),λF=>?_⟩,late:=λi hi=>c.late i (by omega) },(c.late (n+1) (by omega)).1⟩
 ·by_cases o:i<n
  ·exact c.done i C D j o g
  have E:i=n:=by omega
  subst E;rw[k1]at g;have G:(p,q,fl)=(C,D,j):=Option.some.inj<|d.symm.trans g;cases G;refine⟨k2.trans ?_,c.cur.1,c.cur.2⟩;show (finP A B p q i S.2).fin i=_;unfold finP finT
  split
  ·exact l
  exact ifp rfl
 unfold asum;rw[(c.late (n+1) (by omega)).2];rfl
theorem Jp.it{k:KK}{al:Nat->Bool}:∀n,n<=(itP A B al n).1.length->Jp k A B al n [] (itP A B al n)/\(itP A B al n).2.fin n=⟨#[]⟩
 |0,_=>by
  have:=hA.s0;have:=hA.s1;have:=hB.s0;have:=hB.s1;exact⟨Jp.start (by omega) (by omega),rfl⟩
 |n+1,hn=>by
  have hn':n<(itP A B al n).1.length:=by
   rcases Nat.lt_or_ge n (itP A B al n).1.length with h|h
   ·exact h
   have e:itP A B al (n+1)=itP A B al n:=FK (A:=A) (B:=B) (al:=al) h 1;rw[e]at hn;omega
  obtain⟨h1,h2⟩:=Jp.it (k:=k) (al:=al) n (by omega);obtain⟨x,hx⟩:∃x,(itP A B al n).1[n]?=some x:=⟨_,List.getElem?_eq_getElem hn'⟩;obtain⟨p,q,fl⟩:=x;exact h1.leave hA hB h2 hx
variable{k:KK}(hk:k.1=A.kind)(hk2:A.kind=B.kind)
include hk hk2
theorem KF(c:Am A.kind v=true)(d:Am B.kind w=true)(h:(Ah A.kind v w).2=0):wval k (tmS A v w)=wval k v*wval k w:=by
 unfold tmS;rw[<-hk]at c h ⊢;rw[<-hk2,<-hk]at d;exact(KE (Ft c) (Ft d) h).val
theorem Ih(c:Am A.kind v=true)(d:Am B.kind w=true)(h:(Ah A.kind v w).2=0):Am A.kind (tmS A v w)=true:=by
 unfold tmS;rw[<-hk]at c h ⊢;rw[<-hk2,<-hk]at d;exact Xy c d h
theorem OY{p q i:Nat}(hp:p<A.n)(hq:q<B.n)(hi:i<A.na p)(h0:A.aout p i≠0)(hP:PrOk A B p q)(l:List Plc)(F:Int->Int->RK k->Nat->RK k):∀m,m<=B.na q ->
  sumL l F (mtL A B p q i m)=sum (λj=>if B.ain q j=A.aout p i then F (A.ain p i) (B.aout q j) (wval k (A.aw p i)*wval k (B.aw q j)) (posP l ((A.ato p i).toNat,(B.ato q j).toNat,false)) else zero) m
 |0,_=>rfl
 |m+1,hm=>by
  show sumL l F (mtL A B p q i m++_)=sum _ m+_;rw[EF,OY hp hq hi h0 hP l F m (by omega)]
  congr 1
  dsimp only
  by_cases e:B.ain q m=A.aout p i
  ·rw[ifp e,ifp e,Gk,KF hA hB hk hk2 (hA.arc p i hp hi).wt (hB.arc q m hq (by omega)).wt (hP.2 i m hi (by omega) h0 e)]
  rw[ifn e,ifn e];rfl
theorem OX{p q:Nat}{fl:Bool}(hp:p<A.n)(hq:q<B.n)(hP:PrOk A B p q)(l:List Plc)(F:Int->Int->RK k->Nat->RK k):∀m,m<=A.na p ->
  sumL l F (lfL A B p q fl m)=sum (λi=>if A.aout p i=0 then (if fl=false then F (A.ain p i) 0 (wval k (A.aw p i)) (posP l ((A.ato p i).toNat,q,false)) else zero)
   else sum (λj=>if B.ain q j=A.aout p i then F (A.ain p i) (B.aout q j) (wval k (A.aw p i)*wval k (B.aw q j)) (posP l ((A.ato p i).toNat,(B.ato q j).toNat,false)) else zero) (B.na q)) m
 |0,_=>rfl
 |m+1,hm=>by
  show sumL l F (lfL A B p q fl m++_)=sum _ m+_;rw[EF,OX hp hq hP l F m (by omega)]
  congr 1
  dsimp only
  by_cases e:A.aout p m=0
  ·rw[ifp e,ifp e];cases fl
   ·rw[ifn (by simp),ifp rfl,Gk]
   rw[ifp rfl,ifn (by simp)];rfl
  rw[ifn e,ifn e];exact OY hA hB hk hk2 hp hq (by omega) e hP l F _ nlr
omit hk hk2 in
theorem OZ{al:Bool}{p q:Nat}(l:List Plc)(F:Int->Int->RK k->Nat->RK k):∀m,sumL l F (rtL B al p q m)=sum (λj=>if B.ain q j=0 then F 0 (B.aout q j) (wval k (B.aw q j)) (posP l (p,(B.ato q j).toNat,al)) else zero) m
 |0=>rfl
 |m+1=>by
  show sumL l F (rtL B al p q m++_)=sum _ m+_;rw[EF,OZ l F m]
  congr 1
  dsimp only
  by_cases e:B.ain q m=0
  ·rw[ifp e,ifp e,Gk]
  rw[ifn e,ifn e];rfl
omit hA hB hk hk2 in
theorem TX(hj:j<m)(e:B.ain q j=A.aout p i):(A.ain p i,B.aout q j,tmS A (A.aw p i) (B.aw q j),((A.ato p i).toNat,(B.ato q j).toNat,false)) ∈ mtL A B p q i m:=by
 induction m with
 |zero=>omega
 |succ m ih =>
  refine List.mem_append.2 ?_;by_cases h:j=m
  ·subst h;right;rw[ifp e];simp
  exact .inl<|ih (by omega)
omit hA hB hk hk2 in
theorem MY(hi:i<m){r:ArP}(hr:r ∈ (if A.aout p i=0 then (if fl then [] else [(A.ain p i,0,A.aw p i,((A.ato p i).toNat,q,false))]) else mtL A B p q i (B.na q))):r ∈ lfL A B p q fl m:=by
 induction m with
 |zero=>omega
 |succ m ih =>
  refine List.mem_append.2 ?_;by_cases h:i=m
  ·subst h;right;exact hr
  exact .inl<|ih (by omega)
omit hA hB hk hk2 in
theorem TY{al:Bool}(hj:j<m)(e:B.ain q j=0):(0,B.aout q j,B.aw q j,(p,(B.ato q j).toNat,al)) ∈ rtL B al p q m:=by
 induction m with
 |zero=>omega
 |succ m ih =>
  refine List.mem_append.2 ?_;by_cases h:j=m
  ·subst h;right;rw[ifp e];simp
  exact .inl<|ih (by omega)
theorem Ru{al:Nat->Bool}(z:∀p,al p=true\/∀k,k<A.na p->A.aout p k≠0)(hn:(itP A B al n).1.length=n)(K:(Ah A.kind A.lead B.lead).2=0)(s:∀p q fl,(p,q,fl) ∈ (itP A B al n).1->PrOk A B p q):
  CmpOf (rmOf k A) (rmOf k B) (rmOf k (itP A B al n).2) (λp q fl=>posP (itP A B al n).1 (p,q,fl)) (λp q fl=>(p,q,fl) ∈ (itP A B al n).1):=by
 obtain⟨h,_⟩:=Jp.it hA hB (k:=k) (al:=al) n (by omega);obtain⟨S,J⟩:=exq<|itP A B al n;rw[<-J]at h hn s ⊢;have H:(A.start.toNat,B.start.toNat,false) ∈ S.1:=List.mem_of_getElem? h.st;refine⟨?_,?_,H,λp q fl c=>⟨?_,h.ok _ c⟩,λp q fl c=>?_,λp q fl c=>?_⟩
 ·show wval k S.2.lead=wval k A.lead*wval k B.lead;rw[h.hd.2.2];exact KF hA hB hk hk2 hA.lead hB.lead K
 ·show S.2.start.toNat=_;rw[h.hd.2.1];exact(JP h.nd h.st).symm
 ·show _<S.2.n;rw[h.len];exact Hk c
 ·obtain⟨D,E⟩:=h.ok _ c;obtain⟨I,_,_⟩:=h.done _ p q fl (by rw[<-hn];exact Hk c) (Hj c);show (if S.2.fin _=⟨#[]⟩ then zero else wval k (S.2.fin _))=(if A.fin p=⟨#[]⟩ then zero else wval k (A.fin p))*(if B.fin q=⟨#[]⟩ then zero else wval k (B.fin q))
  rw[I];by_cases g:A.fin p=⟨#[]⟩
  ·rw[Mp (.inl g),ifp rfl,ifp g,zm]
  by_cases d:B.fin q=⟨#[]⟩
  ·rw[Mp (.inr d),ifp rfl,ifp d,m0]
  rw[SR g d,ifn g,ifn d];have l:=(hA.fin p D).resolve_left g;have m:=(hB.fin q E).resolve_left d;have o:=(s p q fl c).1 g d;have G:Am A.kind (tmS A (A.fin p) (B.fin q))=true:=Ih hA hB hk hk2 l m o;rw[ifn (λe=>by rw[e]at G;exact absurd G (by unfold Am;simp[show rdV ⟨#[]⟩=none by decide +kernel])),KF hA hB hk hk2 l m o]
 obtain⟨D,E⟩:=h.ok _ c;obtain⟨_,l,m⟩:=h.done _ p q fl (by rw[<-hn];exact Hk c) (Hj c);have u:=s p q fl c;refine⟨al p,z p,λi hi e hf=>?_,λi j hi C e d=>?_,λj C e=>?_,λF=>?_⟩
 ·subst hf;exact l _ (List.mem_append_left _ (MY (r:=(A.ain p i,0,A.aw p i,((A.ato p i).toNat,q,false))) hi (by rw[ifp (show A.aout p i=0 from e)];simp)))
 ·exact l _ (List.mem_append_left _ (MY hi (by rw[ifn (show ¬A.aout p i=0 from e)];exact TX C d)))
 ·exact l _ (List.mem_append_right _ (TY C e))
 have o:=m F;refine o.trans ?_;unfold arL;rw[EF,OX hA hB hk hk2 D E u S.1 F _ nlr,OZ hA hB];rfl
end
end
section
open Go.RowKit Go.Deep
variable{w:World}{d:Nat}
def plV(x:Plc):Value:=.agg #[.int .i64 (x.1:Int),.int .i64 (x.2.1:Int),.bool x.2.2]
def plOk(x:Plc):Prop:=x.1<=1000000/\x.2.1<=1000000
def Vg{x y:Plc}(h:plV x=plV y):x=y:=by
 obtain⟨p,q,f⟩:=x;obtain⟨d,g,i⟩:=y;simp only[plV,Value.agg.injEq,Array.mk.injEq,List.cons.injEq,Value.int.injEq,Value.bool.injEq,true_and,and_true]at h;obtain⟨j,k,c⟩:=h;rw[show p=d by omega,show q=g by omega,c]
theorem lawP:Maps.Keyed prog 74:=Maps.Keyed.of_law<|deep_law_laid (m:=3) (by kernel_rfl) (by omega) (of_decide_eq_true (by kernel_rfl)) (by kernel_rfl) (by kernel_rfl)
def keyP{x:Plc}(h:plOk x):∃l,keyOf prog 74 (plV x)=some l:=by
 obtain⟨p,q,c⟩:=x;have s:p<=1000000:=h.1;have u:q<=1000000:=h.2;have g:prog.keyType 74=true:=by kernel_rfl
 have d:prog.cellsOf 74=3:=by kernel_rfl
 have i:prog.cellsOf 3=1:=by kernel_rfl
 have j:prog.cellsOf 4=1:=by kernel_rfl
 have m:(Lit.int .i64 (p:Int)).wf=true:=by simp[Lit.wf,IntKind.min,IntKind.max,IntKind.signed,IntKind.bits];omega
 have o:(Lit.int .i64 (q:Int)).wf=true:=by simp[Lit.wf,IntKind.min,IntKind.max,IntKind.signed,IntKind.bits];omega
 obtain⟨N,k⟩:∃N,prog.types.size=N+1:=⟨prog.types.size-1,by kernel_rfl⟩;have e:prog.keyLits (prog.types.size+1) 74 [.int .i64 (p:Int),.int .i64 (q:Int),.bool c]=some [.int .i64 p,.int .i64 q,.bool c]:=by
  rw[k];simp[Program.keyLits,underlying74,underlying3,underlying4,d,i,j,m,o]
 have hf:(plV (p,q,c)).formed prog 74=true:=by simp[Value.formed,underlying74,Value.cells,plV,d]
 refine⟨.string (keyBytes [.int .i64 p,.int .i64 q,.bool c]),?_⟩;unfold keyOf;rw[show prog.underlying 74=_ from underlying74];show (if (prog.keyType 74&&(plV (p,q,c)).formed prog 74)=true then ((prog.keyLits (prog.types.size+1) 74 [.int .i64 (p:Int),.int .i64 (q:Int),.bool c]).map λls=>Lit.string (keyBytes ls)) else none)=_
 rw[g,hf,e];rfl
def Vh{n:Nat}(h:n<=1000000):plainElem (H:=Unit) prog 3 (.int .i64 (n:Int))=some (.lit (.int .i64 (n:Int)),[]):=plainElem_int underlying3 (by simp[Lit.wf,IntKind.min,IntKind.max,IntKind.signed,IntKind.bits];omega)
def YG(w:World):(zeroValue 3).run prog w=.ok (.int .i64 0) w:=by kernel_rfl
def MpP(w:World)(pb:Nat)(l:List Plc):Prop:=∃D:DataW Unit,w.ownsMap prog 74 (plainElem prog 3) pb l.length D/\Maps.IsMap D/\∀x kl,keyOf prog 74 (plV x)=some kl->∀z:Int,D.atKey kl (.lit (.int .i64 z))=.lit (.int .i64 (if x ∈ l then (posP l x:Int) else z))
def MpP.made(w:World):MpP (w.alloc (.map #[] 0)) w.heap.size []:=⟨.map [],World.ownsMap_made w _ _ _,⟨[],rfl⟩,λ_ _ _ _=>by rw[ifn (by simp)];rfl⟩
def MpP.kept{w':World}{l:List Plc}(h:MpP w d l)(m:w'.heap[d]?=w.heap[d]?):MpP w' d l:=by
 obtain⟨D,⟨g,c,hb,i⟩,j,k⟩:=h;exact⟨D,⟨g,c,m.trans hb,i⟩,j,k⟩
def MpP.block{i:Nat}{l:List Plc}(h:MpP w i l){b:Nat}{c:Array Value}{t:TypeId}{f:Nat × Nat}(hb:w.heap[b]?=some (.cells c t f)):b≠i:=by
 obtain⟨D,⟨j,d,g,_⟩,_⟩:=h;rintro rfl;rw[hb]at g;cases g
def MpP.lt{l:List Plc}(h:MpP w d l):d<w.heap.size:=by
 obtain⟨D,⟨i,c,g,_⟩,_⟩:=h;exact(Array.getElem?_eq_some_iff.1 g).1
def MpP.look{z:Nat}{l:List Plc}(h:MpP w z l){x:Plc}(B:plOk x):
  (Instr.lookup 67 (.map (some z)) (plV x) true).run prog w=.ok (.tuple #[.int .i64 (if x ∈ l then (posP l x:Int) else 0),.bool (decide (x ∈ l))]) w:=by
 obtain⟨D,⟨E,k,hb,F,G,rfl⟩,_,m⟩:=h;obtain⟨p,i⟩:=keyP B
 rcases Maps.fit_look true lawP underlying67 (YG w) hb F i with⟨d,_,g⟩|⟨C,y,_,_,d,o,g,_⟩
 ·have s:x ∉ l:=λj=>by
   have a:=(g (.lit (.int .i64 ((posP l x:Int)+1)))).symm.trans (m x p i ((posP l x:Int)+1));rw[ifp j]at a;simp only[DataW.lit.injEq,Lit.int.injEq,true_and]at a;omega
  rw[d,ifn s,decide_eq_false s];rfl
 obtain⟨c,A,u,_⟩:=plainElem_int_inv underlying3 o;by_cases j:x ∈ l
 ·have a:=(g (.lit (.int .i64 0))).symm.trans (m x p i 0);rw[ifp j,u]at a;simp only[DataW.lit.injEq,Lit.int.injEq,true_and]at a;rw[d,A,ifp j,decide_eq_true j,a];rfl
 have a:=(g (.lit (.int .i64 (c+1)))).symm.trans (m x p i (c+1));rw[ifn j,u]at a;simp only[DataW.lit.injEq,Lit.int.injEq,true_and]at a;omega
theorem MpP.put{w1:World}{p:Nat}{l:List Plc}{x:Plc}{d:Lit}{D:DataW Unit}(m:Maps.IsMap D)(k:∀x d,keyOf prog 74 (plV x)=some d->∀z:Int,D.atKey d (.lit (.int .i64 z))=.lit (.int .i64 (if x ∈ l then (posP l x:Int) else z)))(o:x ∉ l)
  (i:keyOf prog 74 (plV x)=some d) (j:w1.ownsMap prog 74 (plainElem prog 3) p (l.length+1) (D.put d (.lit (.int .i64 (l.length:Int))))):MpP w1 p (l++[x]):=by
 refine⟨_,by rw[List.length_append];exact j,m.put _ _,λy ky g z=>?_⟩;by_cases e:y=x
 ·subst e;rw[i]at g;cases g;rw[Maps.atKey_put_same m (lawP.key i),ifp (by simp)];have c:posP (l++[y]) y=l.length:=by
   clear j k
   induction l with
   |nil=>show (if y=y then 0 else _)=0;rw[ifp rfl]
   |cons a t ih =>
    show (if a=y then 0 else posP (t++[y]) y+1)=_
    rw[ifn (λe=>o (by rw[e];simp)),ih (λe=>o (by simp[e]))];rfl
  rw[c]
 rw[Maps.atKey_put_other (λh:ky=d=>e (Vg (lawP.inj (l:=d) (by rw[<-h];exact g) i))),k y ky g z];by_cases c:y ∈ l
 ·rw[ifp c,ifp (List.mem_append_left _ c),JO _ c]
 rw[ifn c,ifn (λh=>(List.mem_append.1 h).elim c (λh=>e (by simpa using h)))]
end
end Go.Proofs.YtpldocnhbdlgfaaGreatDoor
