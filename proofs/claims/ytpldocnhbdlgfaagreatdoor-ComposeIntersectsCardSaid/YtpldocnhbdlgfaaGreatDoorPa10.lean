/- Parts. -/
import Derived.Test.YtpldocnhbdlgfaaGreatDoorPa08
import Derived.Laws.CopyOwn
namespace Go.Proofs.YtpldocnhbdlgfaaGreatDoor
set_option maxRecDepth 100000
set_option linter.all false
set_option maxHeartbeats 16000000
open Go Tryz
section
open Go.RowKit Go.Deep
variable{n:Nat}{v:Value}{x:Nat->Int}
def EB(w:World)(B:Si none w v n x)(hn:(n:Int)<=9223372036854775807):
  Calls prog 13 #[v] w (λr w'=>r=.returned (.bool (isWord n x))/\w'=w):=by
 obtain⟨a,C,b,N,rfl,z,Q,J,hb,c⟩:=B.open;unfold maxLen at J;replace z:=qh z;replace c:=qh c;clear B hb;by_cases E:(200:Int)<(n:Int)
 ·have u:isWord n x=false:=by unfold isWord;rw[show decide (n<=200)=false by simp;omega];rfl
  rw[u];clear u
  go_enter func13,ntmps13
  go_wp2;go_ret;exact⟨rfl,rfl⟩
 have F:decide ((200:Int)<(n:Int))=false:=by simp;omega
 have K:n<=200:=by omega
 have u:isWord n x=DO n x 500:=by unfold isWord;rw[show decide (n<=200)=true by simp;omega];simp
 rw[u];clear u E
 go_enter func13,ntmps13
 go_wp2_with fail
 go_loop [3] (λi=>∃q:Nat,q<=n/\i=.int .i64 (q:Int)/\∀j,j<q->1<=x j/\x j<=500) (λi=>n-(intOf i).toNat)
 case atStart=>exact⟨0,Nat.zero_le _,rfl,λj I=>by omega⟩
 obtain⟨q,R,rfl,l⟩:=hrel;replace l:=qh l;by_cases o:q<n
 ·have L:(q:Int)<(n:Int):=by omega
  have A:(0:Int)<=(q:Int):=by omega
  obtain rfl:=z.o (by omega);have c0:=c.o q o;obtain⟨p,d⟩:=exq<|x q;rw[<-d]at c0;replace d:=qh d;by_cases O:p<1
  ·have g:DO n x 500=false:=QJ.2 λh=>by have:=(h q o).1;rw[<-d.o]at this;omega
   have m:=qh g;clear g;go_wp2;go_ret;exact⟨AJ m.o.symm,rfl⟩
  have D:decide (p<1)=false:=by simp;omega
  by_cases P:(500:Int)<p
  ·have g:DO n x 500=false:=QJ.2 λh=>by have:=(h q o).2;rw[<-d.o]at this;omega
   have m:=qh g;clear g;go_wp2;go_ret;exact⟨AJ m.o.symm,rfl⟩
  have G:decide ((500:Int)<p)=false:=by simp;omega
  go_wp2
  go_round
  case rel=>exact⟨q+1,by omega,by go_num,λj I=>by
   by_cases e:j=q
   ·subst e;rw[<-d.o];omega
   exact l.o j (by omega)⟩
  simp[intOf];omega
 have s:q=n:=by omega
 have H:¬((q:Int)<(n:Int)):=by omega
 have k:DO n x 500=true:=GK.2 λi hi=>l.o i (by rw[s];exact hi);replace k:=qh k;clear s;go_wp2;go_ret;exact⟨AJ k.o.symm,rfl⟩
def Ni{w:World}(h:Si none w v n x):(n:Int)<=9223372036854775807:=by
 obtain⟨_,_,_,_,_,_,d,c,_⟩:=h.open;unfold maxLen at c;omega
end
section
open Go CSR
variable{i j m n p q:Nat}{fl:Bool}{A B:MD}{v w:ByteArray}
abbrev Plc:=Nat × Nat × Bool
abbrev ArP:=Int × Int × ByteArray × Plc
def posP:List Plc->Plc->Nat
 | [],_=>0
 |a::t,x=>if a=x then 0 else posP t x+1
theorem Ik{x:Plc}:∀{l:List Plc},x ∈ l->l[posP l x]?=some x
 | [],h=>by cases h
 |a::t,h=>by
  unfold posP;by_cases e:a=x
  ·rw[ifp e,e];rfl
  rw[ifn e]
  rcases List.mem_cons.1 h with h|h
  ·exact absurd h.symm e
  exact Ik (l:=t) h
def Il{x:Plc}{l:List Plc}(h:x ∈ l):posP l x<l.length:=by
 have d:=Ik h
 rcases Nat.lt_or_ge (posP l x) l.length with c|c
 ·exact c
 rw[List.getElem?_eq_none c]at d;cases d
theorem Gi{x:Plc}:∀{l:List Plc},x ∉ l->posP l x=l.length
 | [],_=>rfl
 |a::t,h=>by
  unfold posP;rw[ifn (λe=>h (by rw[e];simp)),Gi (l:=t) (λe=>h (by simp[e]))];rfl
theorem Ko{x:Plc}(m:List Plc):∀{l:List Plc},x ∈ l->posP (l++m) x=posP l x
 | [],h=>by cases h
 |a::t,h=>by
  show (if a=x then 0 else posP (t++m) x+1)=if a=x then 0 else posP t x+1
  by_cases e:a=x
  ·rw[ifp e,ifp e]
  rw[ifn e,ifn e]
  rcases List.mem_cons.1 h with h|h
  ·exact absurd h.symm e
  rw[Ko m (l:=t) h]
theorem Kp{x:Plc}:∀{l:List Plc} {i:Nat},l.Nodup->l[i]?=some x->posP l x=i
 | [],i,_,h=>by simp at h
 |a::t,0,_,h=>by
  have e:a=x:=by simpa using h
  unfold posP;rw[ifp e]
 |a::t,i+1,hn,h=>by
  have h1:t[i]?=some x:=by simpa using h
  have hx:x ∈ t:=List.mem_of_getElem? h1;unfold posP;rw[ifn (λe=>(List.nodup_cons.1 hn).1 (by rw[e];exact hx)),Kp (l:=t) (List.nodup_cons.1 hn).2 h1]
section
variable(A B:MD)(al:Bool)(p q:Nat)(fl:Bool)
def tmS(v w:ByteArray):ByteArray:=(Ae A.kind v w).1
def mtL(k:Nat):Nat->List ArP
 |0=>[]
 |j+1=>mtL k j++(if B.ain q j=A.aout p k then [(A.ain p k,B.aout q j,tmS A (A.aw p k) (B.aw q j),((A.ato p k).toNat,(B.ato q j).toNat,false))] else [])
def lfL:Nat->List ArP
 |0=>[]
 |k+1=>lfL k++(if A.aout p k=0 then (if fl then [] else [(A.ain p k,0,A.aw p k,((A.ato p k).toNat,q,false))]) else mtL A B p q k (B.na q))
def rtL:Nat->List ArP
 |0=>[]
 |j+1=>rtL j++(if B.ain q j=0 then [(0,B.aout q j,B.aw q j,(p,(B.ato q j).toNat,al))] else [])
def arL:List ArP:=lfL A B p q fl (A.na p)++rtL B al p q (B.na q)
def finT:ByteArray:=if A.fin p=⟨#[]⟩\/B.fin q=⟨#[]⟩ then ⟨#[]⟩ else tmS A (A.fin p) (B.fin q)
variable{A B p q}in
theorem MR(h:A.fin p=⟨#[]⟩\/B.fin q=⟨#[]⟩):finT A B p q=⟨#[]⟩:=ifp h
variable{A B p q}in
theorem TR(h:A.fin p≠⟨#[]⟩)(c:B.fin q≠⟨#[]⟩):finT A B p q=tmS A (A.fin p) (B.fin q):=ifn<|λe=>e.elim h c
def PrOk:Prop:=(A.fin p≠⟨#[]⟩->B.fin q≠⟨#[]⟩->(Ae A.kind (A.fin p) (B.fin q)).2=0)/\∀k j,k<A.na p->j<B.na q->A.aout p k≠0->B.ain q j=A.aout p k->(Ae A.kind (A.aw p k) (B.aw q j)).2=0
end
def numP(S:List Plc × MD)(x:Plc):List Plc × MD:=if x ∈ S.1 then S else (S.1++[x],S.2.state ⟨#[]⟩)
def addP(n:Nat)(S:List Plc × MD)(r:ArP):List Plc × MD:=((numP S r.2.2.2).1,(numP S r.2.2.2).2.arc n r.1 r.2.1 r.2.2.1 (posP S.1 r.2.2.2:Nat))
theorem LL{S:List Plc × MD}{r:ArP}(h:r.2.2.2 ∈ S.1):addP n S r=(S.1,S.2.arc n r.1 r.2.1 r.2.2.1 (posP S.1 r.2.2.2:Nat)):=by unfold addP numP;rw[ifp h]
theorem LK{S:List Plc × MD}{r:ArP}(h:r.2.2.2 ∉ S.1):addP n S r=(S.1++[r.2.2.2],(S.2.state ⟨#[]⟩).arc n r.1 r.2.1 r.2.2.1 (S.1.length:Nat)):=by unfold addP numP;rw[ifn h,Gi h]
def addL(n:Nat)(S:List Plc × MD)(L:List ArP):List Plc × MD:=L.foldl (addP n) S
theorem LH(n:Nat)(S:List Plc × MD)(L M:List ArP):addL n S (L++M)=addL n (addL n S L) M:=List.foldl_append
def finP(A B:MD)(p q n:Nat)(D:MD):MD:=if A.fin p=⟨#[]⟩\/B.fin q=⟨#[]⟩ then D else D.setFin n (tmS A (A.fin p) (B.fin q))
def BX(A B:MD)(al:Nat->Bool)(n:Nat)(S:List Plc × MD):List Plc × MD :=
 match S.1[n]? with
 |none=>S
 |some (p,q,fl)=>addL n (S.1,finP A B p q n S.2) (arL A B (al p) p q fl)
def it0(A B:MD):List Plc × MD:=([(A.start.toNat,B.start.toNat,false)],(AV A.kind 0 (tmS A A.lead B.lead)).state ⟨#[]⟩)
def itP(A B:MD)(al:Nat->Bool):Nat->List Plc × MD
 |0=>it0 A B
 |n+1=>BX A B al n (itP A B al n)
theorem Ff{A B:MD}{al:Nat->Bool}{n:Nat}(h:(itP A B al n).1.length<=n):∀m,itP A B al (n+m)=itP A B al n
 |0=>rfl
 |m+1=>by
  have ih:=Ff h m;show BX A B al (n+m) (itP A B al (n+m))=_;rw[ih];unfold BX;rw[List.getElem?_eq_none (by omega)]
theorem Uq{al:Nat->Bool}(hn:(itP A B al n).1.length<=n)(c:(itP A B al m).1.length<=m):itP A B al n=itP A B al m:=by
 rcases Nat.le_total n m with h|h
 ·rw[<-Nat.add_sub_cancel' h];exact(Ff hn _).symm
 rw[<-Nat.add_sub_cancel' h];exact Ff c _
section
variable{k:KK}
def sumL(l:List Plc)(F:Int->Int->RK k->Nat->RK k):List ArP->RK k
 | []=>zero
 |r::t=>F r.1 r.2.1 (wval k r.2.2.1) (posP l r.2.2.2)+sumL l F t
theorem EG(l:List Plc)(F:Int->Int->RK k->Nat->RK k)(M:List ArP):∀L:List ArP,sumL l F (L++M)=sumL l F L+sumL l F M
 | []=>(z0 _).symm
 |r::t=>by
  show _+sumL l F (t++M)=_+sumL l F t+sumL l F M;rw[EG l F M t,aA]
theorem Gz(l:List Plc)(F:Int->Int->RK k->Nat->RK k)(r:ArP):sumL l F [r]=F r.1 r.2.1 (wval k r.2.2.1) (posP l r.2.2.2):=a0 _
theorem Le(l m:List Plc)(F:Int->Int->RK k->Nat->RK k):∀L:List ArP,(∀r ∈ L,r.2.2.2 ∈ l)->sumL (l++m) F L=sumL l F L
 | [],_=>rfl
 |r::t,h=>by
  show _+sumL (l++m) F t=_+sumL l F t;rw[Le l m F t (λr hr=>h r (by simp[hr])),Ko m (h r (by simp))]
structure Jp(k:KK)(A B:MD)(al:Nat->Bool)(n:Nat)(L:List ArP)(S:List Plc × MD):Prop where
 nd:S.1.Nodup
 len:S.2.n=S.1.length
 ok:∀x ∈ S.1,x.1<A.n/\x.2.1<B.n
 st:S.1[0]?=some (A.start.toNat,B.start.toNat,false)
 hd:S.2.kind=A.kind/\S.2.start=0/\S.2.lead=tmS A A.lead B.lead
 done:∀i p q fl,i<n->S.1[i]?=some (p,q,fl)->S.2.fin i=finT A B p q/\(∀r ∈ arL A B (al p) p q fl,r.2.2.2 ∈ S.1)/\∀F,asum k S.2 i F=sumL S.1 F (arL A B (al p) p q fl)
 cur:(∀r ∈ L,r.2.2.2 ∈ S.1)/\∀F,asum k S.2 n F=sumL S.1 F L
 late:∀i,n<i->S.2.fin i=⟨#[]⟩/\S.2.na i=0
theorem Jp.start{A B:MD}{al:Nat->Bool}(c:A.start.toNat<A.n)(d:B.start.toNat<B.n):Jp k A B al 0 [] (it0 A B) where
 nd:=by simp[it0]
 len:=rfl
 ok:=λx h=>by
  have e:x=(A.start.toNat,B.start.toNat,false):=by simpa [it0] using h
  rw[e];exact⟨c,d⟩
 st:=rfl
 hd:=⟨rfl,rfl,rfl⟩
 done:=λi p q j hi _=>absurd hi (Nat.not_lt_zero _)
 cur:=⟨λr g=>(by cases g),λF=>rfl⟩
 late:=λi hi=>by
  exact⟨ifn (show ¬i=0 by omega),ifn (show ¬i=0 by omega)⟩
theorem Jp.fin{A B:MD}{al:Nat->Bool}{n p q:Nat}{fl:Bool}{S:List Plc × MD}(h:Jp k A B al n [] S):Jp k A B al n [] (S.1,finP A B p q n S.2):=by
 unfold finP
 split
 ·exact h
 exact { h with
  done:=λi m o c hi l=>by
   obtain⟨d,g,j⟩:=h.done i m o c hi l;refine⟨?_,g,j⟩;show (if i=n then _ else S.2.fin i)=_
   rw[ifn (by omega)];exact d
  late:=λi hi=>⟨by show (if i=n then _ else S.2.fin i)=_;rw[ifn (by omega)];exact(h.late i hi).1,(h.late i hi).2⟩ }
theorem Jp.add{al:Nat->Bool}{L:List ArP}{S:List Plc × MD}(h:Jp k A B al n L S)(hn:n<S.1.length){r:ArP}(G:r.2.2.2.1<A.n/\r.2.2.2.2.1<B.n):Jp k A B al n (L++[r]) (addP n S r)/\n<(addP n S r).1.length:=by
 by_cases l:r.2.2.2 ∈ S.1
 ·rw[LL l];refine⟨{ nd:=h.nd,len:=h.len,ok:=h.ok,st:=h.st,hd:=h.hd,done:=λi p q m hi g=>?_,cur:=⟨λj d=>?_,λF=>?_⟩,late:=λi hi=>⟨(h.late i hi).1,?_⟩ },hn⟩
  ·obtain⟨c,o,u⟩:=h.done i p q m hi g;refine⟨c,o,λF=>?_⟩;rw[Ha,ifn (by omega),a0];exact u F
  ·rcases List.mem_append.1 d with c|c
   ·exact h.cur.1 j c
   have e:j=r:=by simpa using c
   rw[e];exact l
  ·rw[Ha,ifp rfl,EG,Gz,h.cur.2 F];rfl
  show (if i=n then _ else S.2.na i)=0
  rw[ifn (by omega)];exact(h.late i hi).2
 rw[LK l];have H:S.1.length=S.2.n:=h.len.symm;refine⟨{ nd:=?_,len:=?_,ok:=λx E=>?_,st:=?_,hd:=h.hd,done:=λi p q m hi g=>?_,cur:=⟨λj d=>?_,λF=>?_⟩,late:=λi hi=>⟨?_,?_⟩ },by show n<(S.1++[r.2.2.2]).length;rw[List.length_append];omega⟩
 ·refine List.nodup_append.2 ⟨h.nd,by simp,λa z b hb=>?_⟩;have e:b=r.2.2.2:=by simpa using hb
  intro s;exact l (by rw[<-e,<-s];exact z)
 ·show S.2.n+1=(S.1++[r.2.2.2]).length;rw[List.length_append,h.len];rfl
 ·rcases List.mem_append.1 E with c|c
  ·exact h.ok x c
  have e:x=r.2.2.2:=by simpa using c
  rw[e];exact G
 ·show (S.1++[r.2.2.2])[0]?=_;rw[List.getElem?_append_left (by omega)];exact h.st
 ·have C:i<S.1.length:=by omega
  have D:S.1[i]?=some (p,q,m):=by rw[<-g];exact(List.getElem?_append_left C).symm
  obtain⟨c,o,u⟩:=h.done i p q m hi D;refine⟨?_,λj d=>List.mem_append_left _ (o j d),λF=>?_⟩
  ·show (if i=S.2.n then _ else S.2.fin i)=_
   rw[ifn (by omega)];exact c
  rw[Ha,ifn (by omega),a0,Md _ _ _ (by omega),Le _ _ F _ o];exact u F
 ·rcases List.mem_append.1 d with c|c
  ·exact List.mem_append_left _ (h.cur.1 j c)
  have e:j=r:=by simpa using c
  rw[e];simp
 ·rw[Ha,ifp rfl,Md _ _ _ (by omega),EG,Gz,Le _ _ F _ h.cur.1,h.cur.2 F]
  congr 1
  have e:posP (S.1++[r.2.2.2]) r.2.2.2=S.1.length:=Kp (by
   refine List.nodup_append.2 ⟨h.nd,by simp,λa z b hb=>?_⟩;have e:b=r.2.2.2:=by simpa using hb
   intro s;exact l (by rw[<-e,<-s];exact z)) (by simp)
  rw[e];rfl
 ·show (if i=S.2.n then _ else S.2.fin i)=_
  split
  ·rfl
  exact(h.late i hi).1
 show (if i=n then _ else if i=S.2.n then 0 else S.2.na i)=0
 rw[ifn (by omega)]
 split
 ·rfl
 exact(h.late i hi).2
theorem Jp.more{A B:MD}{al:Nat->Bool}{n:Nat}:∀(M:List ArP) {L:List ArP} {S:List Plc × MD},Jp k A B al n L S->n<S.1.length->(∀r ∈ M,r.2.2.2.1<A.n/\r.2.2.2.2.1<B.n)->Jp k A B al n (L++M) (addL n S M)/\n<(addL n S M).1.length
 | [],L,S,h,hn,_=>by rw[List.append_nil];exact⟨h,hn⟩
 |r::t,L,S,h,hn,hM=>by
  obtain⟨h1,h2⟩:=h.add hn (hM r (by simp));have h3:=Jp.more t h1 h2 (λr' hr'=>hM r' (by simp[hr']));rw[List.append_assoc]at h3;exact h3
end
section
variable{A B:MD}(hA:VM A)(hB:VM B)
include hA hB
theorem Rt{al:Bool}(o:p<A.n)(s:q<B.n):∀r ∈ arL A B al p q fl,r.2.2.2.1<A.n/\r.2.2.2.2.1<B.n:=by
 have i:∀k,k<A.na p->(A.ato p k).toNat<A.n:=λk g=>by have d:=hA.arc p k o g;have:=d.t0;have:=d.t1;omega
 have hb:∀j,j<B.na q->(B.ato q j).toNat<B.n:=λj D=>by have d:=hB.arc q j s D;have:=d.t0;have:=d.t1;omega
 have u:∀k,k<A.na p->∀m,m<=B.na q->∀r ∈ mtL A B p q k m,r.2.2.2.1<A.n/\r.2.2.2.2.1<B.n:=λk g m=>by
  induction m with
  |zero=>intro _ r c;cases c
  |succ m ih =>
   intro l r c
   rcases List.mem_append.1 c with h|h
   ·exact ih (by omega) r h
   split at h
   ·have e:=List.mem_singleton.1 h;rw[e];exact⟨i k g,hb m (by omega)⟩
   cases h
 have z:∀m,m<=A.na p->∀r ∈ lfL A B p q fl m,r.2.2.2.1<A.n/\r.2.2.2.2.1<B.n:=λm=>by
  induction m with
  |zero=>intro _ r c;cases c
  |succ m ih =>
   intro l r c
   rcases List.mem_append.1 c with h|h
   ·exact ih (by omega) r h
   split at h
   ·split at h
    ·cases h
    have e:=List.mem_singleton.1 h;rw[e];exact⟨i m (by omega),s⟩
   exact u m (by omega) _ nlr r h
 have C:∀m,m<=B.na q->∀r ∈ rtL B al p q m,r.2.2.2.1<A.n/\r.2.2.2.2.1<B.n:=λm=>by
  induction m with
  |zero=>intro _ r c;cases c
  |succ m ih =>
   intro l r c
   rcases List.mem_append.1 c with h|h
   ·exact ih (by omega) r h
   split at h
   ·have e:=List.mem_singleton.1 h;rw[e];exact⟨o,hb m (by omega)⟩
   cases h
 intro r c
 rcases List.mem_append.1 c with h|h
 ·exact z _ nlr r h
 exact C _ nlr r h
theorem Jp.leave{k:KK}{al:Nat->Bool}{S:List Plc × MD}(h:Jp k A B al n [] S)(l:S.2.fin n=⟨#[]⟩)(d:S.1[n]?=some (p,q,fl)):Jp k A B al (n+1) [] (BX A B al n S)/\(BX A B al n S).2.fin (n+1)=⟨#[]⟩:=by
 have z:n<S.1.length:=by
  rcases Nat.lt_or_ge n S.1.length with c|c
  ·exact c
  rw[List.getElem?_eq_none c]at d;cases d
 obtain⟨L,N⟩:=h.ok _ (List.mem_of_getElem? d);have e:BX A B al n S=addL n (S.1,finP A B p q n S.2) (arL A B (al p) p q fl):=by unfold BX;rw[d]
 rw[e];obtain⟨c,H⟩:=Jp.more (arL A B (al p) p q fl) (h.fin (p:=p) (q:=q) (fl:=fl)) z (Rt hA hB L N);rw[List.nil_append]at c;have keep:∀(M:List ArP) (S:List Plc × MD),n<S.1.length->S.2.n=S.1.length->(addL n S M).1[n]?=S.1[n]?/\(addL n S M).2.fin n=S.2.fin n:=λM=>by
  induction M with
  |nil=>intro S _ _;exact⟨rfl,rfl⟩
  |cons r t ih =>
   intro S s u;show (addL n (addP n S r) t).1[n]?=_/\(addL n (addP n S r) t).2.fin n=_;by_cases d:r.2.2.2 ∈ S.1
   ·rw[LL d];exact ih _ s u
   rw[LK d];obtain⟨I,J⟩:=ih (S.1++[r.2.2.2],(S.2.state ⟨#[]⟩).arc n r.1 r.2.1 r.2.2.1 (S.1.length:Nat)) (by show n<(S.1++[r.2.2.2]).length;rw[List.length_append];omega) (by show S.2.n+1=(S.1++[r.2.2.2]).length;rw[List.length_append,u];rfl);refine⟨I.trans (List.getElem?_append_left s),J.trans ?_⟩;show (if n=S.2.n then _ else S.2.fin n)=_
   rw[ifn (by omega)]
 have m:(finP A B p q n S.2).n=S.1.length:=by unfold finP;split<;>exact h.len
 obtain⟨k1,k2⟩:=keep (arL A B (al p) p q fl) (S.1,finP A B p q n S.2) z m;obtain⟨T,K⟩:=exq<|addL n (S.1,finP A B p q n S.2) (arL A B (al p) p q fl);rw[<-K]at c H k1 k2 ⊢;refine⟨{ c with done:=λi C D j hi g=>?_,cur:=⟨λr O=>(by cases O),λF=>?_⟩,late:=λi hi=>c.late i (by omega) },(c.late (n+1) (by omega)).1⟩
 ·by_cases o:i<n
  ·exact c.done i C D j o g
  have E:i=n:=by omega
  subst E;rw[k1]at g;have G:(p,q,fl)=(C,D,j):=Option.some.inj<|d.symm.trans g;cases G;refine⟨k2.trans ?_,c.cur.1,c.cur.2⟩;show (finP A B p q i S.2).fin i=_;unfold finP finT
  split
  ·exact l
  exact ifp rfl
 unfold asum;rw[(c.late (n+1) (by omega)).2];rfl
theorem Jp.it{k:KK}{al:Nat->Bool}:∀n,n<=(itP A B al n).1.length->Jp k A B al n [] (itP A B al n)/\(itP A B al n).2.fin n=⟨#[]⟩
 |0,_=>by
  have:=hA.s0;have:=hA.s1;have:=hB.s0;have:=hB.s1;exact⟨Jp.start (by omega) (by omega),rfl⟩
 |n+1,hn=>by
  have hn':n<(itP A B al n).1.length:=by
   rcases Nat.lt_or_ge n (itP A B al n).1.length with h|h
   ·exact h
   have e:itP A B al (n+1)=itP A B al n:=Ff (A:=A) (B:=B) (al:=al) h 1;rw[e]at hn;omega
  obtain⟨h1,h2⟩:=Jp.it (k:=k) (al:=al) n (by omega);obtain⟨x,hx⟩:∃x,(itP A B al n).1[n]?=some x:=⟨_,List.getElem?_eq_getElem hn'⟩;obtain⟨p,q,fl⟩:=x;exact h1.leave hA hB h2 hx
variable{k:KK}(hk:k.1=A.kind)(hk2:A.kind=B.kind)
include hk hk2
theorem Ll(c:Am A.kind v=true)(d:Am B.kind w=true)(h:(Ae A.kind v w).2=0):wval k (tmS A v w)=wval k v*wval k w:=by
 unfold tmS;rw[<-hk]at c h ⊢;rw[<-hk2,<-hk]at d;exact(IK (Fy c) (Fy d) h).val
theorem IM(c:Am A.kind v=true)(d:Am B.kind w=true)(h:(Ae A.kind v w).2=0):Am A.kind (tmS A v w)=true:=by
 unfold tmS;rw[<-hk]at c h ⊢;rw[<-hk2,<-hk]at d;exact Yf c d h
theorem PR{p q i:Nat}(hp:p<A.n)(hq:q<B.n)(hi:i<A.na p)(h0:A.aout p i≠0)(hP:PrOk A B p q)(l:List Plc)(F:Int->Int->RK k->Nat->RK k):∀m,m<=B.na q ->
  sumL l F (mtL A B p q i m)=sum (λj=>if B.ain q j=A.aout p i then F (A.ain p i) (B.aout q j) (wval k (A.aw p i)*wval k (B.aw q j)) (posP l ((A.ato p i).toNat,(B.ato q j).toNat,false)) else zero) m
 |0,_=>rfl
 |m+1,hm=>by
  show sumL l F (mtL A B p q i m++_)=sum _ m+_;rw[EG,PR hp hq hi h0 hP l F m (by omega)]
  congr 1
  dsimp only
  by_cases e:B.ain q m=A.aout p i
  ·rw[ifp e,ifp e,Gz,Ll hA hB hk hk2 (hA.arc p i hp hi).wt (hB.arc q m hq (by omega)).wt (hP.2 i m hi (by omega) h0 e)]
  rw[ifn e,ifn e];rfl
theorem PQ{p q:Nat}{fl:Bool}(hp:p<A.n)(hq:q<B.n)(hP:PrOk A B p q)(l:List Plc)(F:Int->Int->RK k->Nat->RK k):∀m,m<=A.na p ->
  sumL l F (lfL A B p q fl m)=sum (λi=>if A.aout p i=0 then (if fl=false then F (A.ain p i) 0 (wval k (A.aw p i)) (posP l ((A.ato p i).toNat,q,false)) else zero)
   else sum (λj=>if B.ain q j=A.aout p i then F (A.ain p i) (B.aout q j) (wval k (A.aw p i)*wval k (B.aw q j)) (posP l ((A.ato p i).toNat,(B.ato q j).toNat,false)) else zero) (B.na q)) m
 |0,_=>rfl
 |m+1,hm=>by
  show sumL l F (lfL A B p q fl m++_)=sum _ m+_;rw[EG,PQ hp hq hP l F m (by omega)]
  congr 1
  dsimp only
  by_cases e:A.aout p m=0
  ·rw[ifp e,ifp e];cases fl
   ·rw[ifn (by simp),ifp rfl,Gz]
   rw[ifp rfl,ifn (by simp)];rfl
  rw[ifn e,ifn e];exact PR hA hB hk hk2 hp hq (by omega) e hP l F _ nlr
omit hk hk2 in
theorem PS{al:Bool}{p q:Nat}(l:List Plc)(F:Int->Int->RK k->Nat->RK k):∀m,sumL l F (rtL B al p q m)=sum (λj=>if B.ain q j=0 then F 0 (B.aout q j) (wval k (B.aw q j)) (posP l (p,(B.ato q j).toNat,al)) else zero) m
 |0=>rfl
 |m+1=>by
  show sumL l F (rtL B al p q m++_)=sum _ m+_;rw[EG,PS l F m]
  congr 1
  dsimp only
  by_cases e:B.ain q m=0
  ·rw[ifp e,ifp e,Gz]
  rw[ifn e,ifn e];rfl
omit hA hB hk hk2 in
theorem UN(hj:j<m)(e:B.ain q j=A.aout p i):(A.ain p i,B.aout q j,tmS A (A.aw p i) (B.aw q j),((A.ato p i).toNat,(B.ato q j).toNat,false)) ∈ mtL A B p q i m:=by
 induction m with
 |zero=>omega
 |succ m ih =>
  refine List.mem_append.2 ?_;by_cases h:j=m
  ·subst h;right;rw[ifp e];simp
  exact .inl<|ih (by omega)
omit hA hB hk hk2 in
theorem NE(hi:i<m){r:ArP}(hr:r ∈ (if A.aout p i=0 then (if fl then [] else [(A.ain p i,0,A.aw p i,((A.ato p i).toNat,q,false))]) else mtL A B p q i (B.na q))):r ∈ lfL A B p q fl m:=by
 induction m with
 |zero=>omega
 |succ m ih =>
  refine List.mem_append.2 ?_;by_cases h:i=m
  ·subst h;right;exact hr
  exact .inl<|ih (by omega)
omit hA hB hk hk2 in
theorem UO{al:Bool}(hj:j<m)(e:B.ain q j=0):(0,B.aout q j,B.aw q j,(p,(B.ato q j).toNat,al)) ∈ rtL B al p q m:=by
 induction m with
 |zero=>omega
 |succ m ih =>
  refine List.mem_append.2 ?_;by_cases h:j=m
  ·subst h;right;rw[ifp e];simp
  exact .inl<|ih (by omega)
theorem Mu{al:Nat->Bool}(z:∀p,al p=true\/∀k,k<A.na p->A.aout p k≠0)(hn:(itP A B al n).1.length=n)(K:(Ae A.kind A.lead B.lead).2=0)(s:∀p q fl,(p,q,fl) ∈ (itP A B al n).1->PrOk A B p q):
  CmpOf (rmOf k A) (rmOf k B) (rmOf k (itP A B al n).2) (λp q fl=>posP (itP A B al n).1 (p,q,fl)) (λp q fl=>(p,q,fl) ∈ (itP A B al n).1):=by
 obtain⟨h,_⟩:=Jp.it hA hB (k:=k) (al:=al) n (by omega);obtain⟨S,J⟩:=exq<|itP A B al n;rw[<-J]at h hn s ⊢;have H:(A.start.toNat,B.start.toNat,false) ∈ S.1:=List.mem_of_getElem? h.st;refine⟨?_,?_,H,λp q fl c=>⟨?_,h.ok _ c⟩,λp q fl c=>?_,λp q fl c=>?_⟩
 ·show wval k S.2.lead=wval k A.lead*wval k B.lead;rw[h.hd.2.2];exact Ll hA hB hk hk2 hA.lead hB.lead K
 ·show S.2.start.toNat=_;rw[h.hd.2.1];exact(Kp h.nd h.st).symm
 ·show _<S.2.n;rw[h.len];exact Il c
 ·obtain⟨D,E⟩:=h.ok _ c;obtain⟨I,_,_⟩:=h.done _ p q fl (by rw[<-hn];exact Il c) (Ik c);show (if S.2.fin _=⟨#[]⟩ then zero else wval k (S.2.fin _))=(if A.fin p=⟨#[]⟩ then zero else wval k (A.fin p))*(if B.fin q=⟨#[]⟩ then zero else wval k (B.fin q))
  rw[I];by_cases g:A.fin p=⟨#[]⟩
  ·rw[MR (.inl g),ifp rfl,ifp g,zm]
  by_cases d:B.fin q=⟨#[]⟩
  ·rw[MR (.inr d),ifp rfl,ifp d,m0]
  rw[TR g d,ifn g,ifn d];have l:=(hA.fin p D).resolve_left g;have m:=(hB.fin q E).resolve_left d;have o:=(s p q fl c).1 g d;have G:Am A.kind (tmS A (A.fin p) (B.fin q))=true:=IM hA hB hk hk2 l m o;rw[ifn (λe=>by rw[e]at G;exact absurd G (by unfold Am;simp[show rdV ⟨#[]⟩=none by decide +kernel])),Ll hA hB hk hk2 l m o]
 obtain⟨D,E⟩:=h.ok _ c;obtain⟨_,l,m⟩:=h.done _ p q fl (by rw[<-hn];exact Il c) (Ik c);have u:=s p q fl c;refine⟨al p,z p,λi hi e hf=>?_,λi j hi C e d=>?_,λj C e=>?_,λF=>?_⟩
 ·subst hf;exact l _ (List.mem_append_left _ (NE (r:=(A.ain p i,0,A.aw p i,((A.ato p i).toNat,q,false))) hi (by rw[ifp (show A.aout p i=0 from e)];simp)))
 ·exact l _ (List.mem_append_left _ (NE hi (by rw[ifn (show ¬A.aout p i=0 from e)];exact UN C d)))
 ·exact l _ (List.mem_append_right _ (UO C e))
 have o:=m F;refine o.trans ?_;unfold arL;rw[EG,PQ hA hB hk hk2 D E u S.1 F _ nlr,PS hA hB];rfl
end
end
section
open Go CSR
variable{A B:MD}{j k p q:Nat}
def WtOf(A:MD)(v:ByteArray):Prop:=v=A.lead\/(∃i,i<A.n/\v=A.fin i/\A.fin i≠⟨#[]⟩)\/∃i k,i<A.n/\k<A.na i/\v=A.aw i k
def BadW(A B:MD):Prop:=∃v w,WtOf A v/\WtOf B w/\(Ae A.kind v w).2≠0
structure Lvi(A B:MD)(n:Nat)(L:List ArP)(S0 S:List Plc × MD)(ac0 ac fl:Nat):Prop where
 nd:S.1.Nodup
 len:S.2.n=S.1.length
 ok:∀x ∈ S.1,x.1<A.n/\x.2.1<B.n
 le:S.1.length<=3001
 na:∀i,S.2.na i<=ac
 ac1:ac<=30001
 acn:ac<=ac0+L.length
 n1:n<S.1.length
 pre:∃m,S.1=S0.1++m
 fl2:fl=0\/fl=2
 good:fl=0->S.1.length<=3000/\S=addL n S0 L/\ac=ac0+L.length
 bad:fl=2->BadW A B\/3000<S.1.length\/30000<ac
section
variable{A B:MD}{n:Nat}{L:List ArP}{S0 S:List Plc × MD}{ac0 ac fl:Nat}
def If(S:List Plc × MD)(x:Plc):(numP S x).1.length<=S.1.length+1:=by
 unfold numP;split
 ·omega
 simp
def Gb(S:List Plc × MD)(x:Plc):∃m,(numP S x).1=S.1++m:=by
 unfold numP;split
 ·exact⟨[],by simp⟩
 exact⟨[x],rfl⟩
def Ga{S:List Plc × MD}(h:S.2.n=S.1.length)(x:Plc):(numP S x).2.n=(numP S x).1.length:=by
 unfold numP;split
 ·exact h
 show S.2.n+1=(S.1++[x]).length;rw[List.length_append,h];rfl
def Fp(S:List Plc × MD)(x:Plc)(i:Nat):(numP S x).2.na i<=S.2.na i:=by
 unfold numP;split
 ·exact nlr
 show (if i=S.2.n then 0 else S.2.na i)<=_
 split<;>omega
def Ob{S:List Plc × MD}(h:S.1.Nodup)(x:Plc):(numP S x).1.Nodup:=by
 unfold numP;split
 ·exact h
 rename_i g;refine List.nodup_append.2 ⟨h,by simp,λa d b hb=>?_⟩;have e:b=x:=by simpa using hb
 intro c;exact g (by rw[<-e,<-c];exact d)
def Oa{S:List Plc × MD}{x y:Plc}(h:y ∈ (numP S x).1):y ∈ S.1\/y=x:=by
 unfold numP at h;split at h
 ·exact .inl h
 rcases List.mem_append.1 h with h|h
 ·exact .inl h
 exact .inr (by simpa using h)
def Lvi.keep(h:Lvi A B n L S0 S ac0 ac fl)(M:List ArP)(hf:fl≠0):Lvi A B n (L++M) S0 S ac0 ac fl :=
 { h with acn:=by have:=h.acn;rw[List.length_append];omega,good:=λe=>absurd e hf }
def Lvi.full(h:Lvi A B n L S0 S ac0 ac fl)(M:List ArP)(hb:3000<S.1.length\/30000<ac):Lvi A B n (L++M) S0 S ac0 ac 2 :=
 { h with acn:=by have:=h.acn;rw[List.length_append];omega,fl2:=.inr rfl,good:=λe=>absurd e (by decide),bad:=λ_=>.inr hb }
def Lvi.wrong(h:Lvi A B n L S0 S ac0 ac fl)(hb:BadW A B):Lvi A B n L S0 S ac0 ac 2 :=
 { h with fl2:=.inr rfl,good:=λe=>absurd e (by decide),bad:=λ_=>.inl hb }
theorem Lvi.add(h:Lvi A B n L S0 S ac0 ac fl){r:ArP}(u:r.2.2.2.1<A.n/\r.2.2.2.2.1<B.n)(H:S.1.length<=3000)(G:ac<=30000){e:Nat}(j:e=if 3000<(numP S r.2.2.2).1.length then 2 else fl):Lvi A B n (L++[r]) S0 (addP n S r) ac0 (ac+1) e:=by
 have C:=If S r.2.2.2;obtain⟨m,o⟩:=Gb S r.2.2.2;obtain⟨m0,k⟩:=h.pre;refine⟨Ob h.nd _,Ga h.len _,λx z=>?_,by show (numP S r.2.2.2).1.length<=3001;omega,λi=>?_,by omega,by have:=h.acn;rw[List.length_append];show ac+1<=ac0+(L.length+1);omega,by show n<(numP S r.2.2.2).1.length;rw[o,List.length_append];have:=h.n1;omega,⟨m0++m,by show (numP S r.2.2.2).1=_;rw[o,k,List.append_assoc]⟩,?_,λg=>?_,λl=>?_⟩
 ·rcases Oa z with c|c
  ·exact h.ok x c
  rw[c];exact u
 ·show (if i=n then (numP S r.2.2.2).2.na n+1 else (numP S r.2.2.2).2.na i)<=ac+1
  have c:=Fp S r.2.2.2 n;have D:=Fp S r.2.2.2 i;have E:=h.na n;have F:=h.na i
  split<;>omega
 ·rw[j];split
  ·exact .inr rfl
  exact h.fl2
 ·have d:¬3000<(numP S r.2.2.2).1.length:=λd=>by rw[j,ifp d]at g;cases g
  rw[j,ifn d]at g;obtain⟨_,p,s⟩:=h.good g;refine⟨by show (numP S r.2.2.2).1.length<=3000;omega,?_,by rw[s,List.length_append];rfl⟩;rw[LH,<-p];rfl
 by_cases d:3000<(numP S r.2.2.2).1.length
 ·exact .inr (.inl d)
 rw[j,ifn d]at l
 rcases h.bad l with c|c|c
 ·exact .inl c
 ·omega
 omega
end
def GD{k:Int}{v w:ByteArray}(c:Ak k v=true)(d:Ak k w=true):(Ae k v w).2=0\/(Ae k v w).2=2:=by
 unfold Ak at c d;obtain⟨a,g⟩:=Option.isSome_iff_exists.1 c;obtain⟨b,hb⟩:=Option.isSome_iff_exists.1 d;unfold Ae;rw[g,hb]
 rcases FT (Ah k a b) with⟨_,h⟩|⟨_,h⟩
 ·left;show (limV (Ah k a b)).2=0;rw[h]
 exact .inr h
section
variable{A B:MD}{n p q:Nat}{S:List Plc × MD}{ac fl:Nat}
def Hn(D:MD):(finP A B p q n D).n=D.n/\(finP A B p q n D).na=D.na:=by unfold finP;split<;>exact⟨rfl,rfl⟩
def Lvi.fin0(h:Lvi A B n [] S S ac ac 0):Lvi A B n [] (S.1,finP A B p q n S.2) (S.1,finP A B p q n S.2) ac ac 0 :=
 ⟨h.nd,by show (finP A B p q n S.2).n=_;rw[(Hn _).1];exact h.len,h.ok,h.le,λi=>by show (finP A B p q n S.2).na i<=_;rw[(Hn _).2];exact h.na i,h.ac1,h.acn,h.n1,⟨[],by simp⟩,h.fl2,λe=>⟨(h.good e).1,rfl,(h.good e).2.2⟩,h.bad⟩
end
def PrQ(A B:MD)(p q k j:Nat):Prop:=(A.fin p≠⟨#[]⟩->B.fin q≠⟨#[]⟩->(Ae A.kind (A.fin p) (B.fin q)).2=0)/\∀k' j',(k' < k\/k'=k/\j' < j)->k' < A.na p->j' < B.na q->A.aout p k'≠0->B.ain q j'=A.aout p k'->(Ae A.kind (A.aw p k') (B.aw q j')).2=0
def PrQ.all(h:PrQ A B p q (A.na p) 0):PrOk A B p q:=⟨h.1,λk j c g d e=>h.2 k j (.inl c) c g d e⟩
def PrQ.skip(h:PrQ A B p q k 0)(i:A.aout p k=0):PrQ A B p q (k+1) 0:=⟨h.1,λd m o l j c e=>by
 by_cases g:d=k
 ·subst g;exact absurd i c
 exact h.2 d m (.inl (by omega)) l j c e⟩
def PrQ.next(h:PrQ A B p q k (B.na q)):PrQ A B p q (k+1) 0:=⟨h.1,λj i l g d c e=>h.2 j i (by omega) g d c e⟩
def PrQ.no(h:PrQ A B p q k j)(i:B.ain q j≠A.aout p k):PrQ A B p q k (j+1):=⟨h.1,λd c s o m l e=>by
 by_cases g:d=k/\c=j
 ·obtain⟨rfl,rfl⟩:=g;exact absurd e i
 exact h.2 d c (by omega) o m l e⟩
def PrQ.yes(h:PrQ A B p q k j)(i:(Ae A.kind (A.aw p k) (B.aw q j)).2=0):PrQ A B p q k (j+1):=⟨h.1,λd c s o m l e=>by
 by_cases g:d=k/\c=j
 ·obtain⟨rfl,rfl⟩:=g;exact i
 exact h.2 d c (by omega) o m l e⟩
theorem NI(A B:MD)(p q k:Nat):∀m,(mtL A B p q k m).length<=m
 |0=>nlr
 |m+1=>by
  have ih:=NI A B p q k m;show (mtL A B p q k m++_).length<=_;rw[List.length_append]
  split<;>simp<;>omega
theorem Nm(A B:MD)(p q:Nat)(fl:Bool):∀m,(lfL A B p q fl m).length<=m+m*B.na q
 |0=>Nat.zero_le _
 |m+1=>by
  have ih:=Nm A B p q fl m;have h1:=NI A B p q m (B.na q);show (lfL A B p q fl m++_).length<=_;rw[List.length_append,Nat.succ_mul]
  split
  ·split<;>simp<;>omega
  omega
theorem Pi(B:MD)(al:Bool)(p q:Nat):∀m,(rtL B al p q m).length<=m
 |0=>nlr
 |m+1=>by
  have ih:=Pi B al p q m;show (rtL B al p q m++_).length<=_;rw[List.length_append]
  split<;>simp<;>omega
theorem Dq(D:MD):∀n i,i<n->D.na i<=Ai D n
 |0,i,h=>by omega
 |n+1,i,h=>by
  show D.na i<=Ai D n+D.na n;by_cases e:i=n
  ·subst e;omega
  have:=Dq D n i (by omega);omega
def Rs(g:p<A.n)(h:q<B.n)(al fl:Bool):(arL A B al p q fl).length<=Ai A A.n+Ai A A.n*Ai B B.n+Ai B B.n:=by
 have i:=Nm A B p q fl (A.na p);have j:=Pi B al p q (B.na q);have c:=Dq A A.n p g;have d:=Dq B B.n q h;have k:A.na p*B.na q<=Ai A A.n*Ai B B.n:=Nat.mul_le_mul c d;unfold arL;rw[List.length_append];omega
theorem JJ{α β:Type}{f:α->List β}{c:Nat}(h:∀a,(f a).length=c):∀l:List α,(l.flatMap f).length=l.length*c
 | []=>by simp
 |a::t=>by rw[List.flatMap_cons,List.length_append,h a,JJ h t,List.length_cons,Nat.succ_mul];omega
def TP{a b:Nat}{l:List Plc}(hn:l.Nodup)(h:∀x ∈ l,x.1<a/\x.2.1<b):l.length<=2*(a*b):=by
 have d:∀x ∈ l,x ∈ (List.range a).flatMap (λp=>(List.range b).flatMap (λq=>[(p,q,false),(p,q,true)])):=λx k=>by
  obtain⟨p,q,f⟩:=x;obtain⟨i,j⟩:=h _ k;simp only[List.mem_flatMap,List.mem_range];refine⟨p,i,q,j,?_⟩;cases f<;>simp
 have g:=List.Nodup.length_le_of_subset hn d;rw[JJ (c:=b*2) (λp=>(JJ (c:=2) (λq=>rfl) _).trans (by rw[List.length_range])),List.length_range]at g;have e:a*(b*2)=2*(a*b):=by rw[<-Nat.mul_assoc,Nat.mul_comm]
 omega
end
section
open CSR
variable{m:Nat}{x y z:List Int}
section
variable{R:Type}[CSR R]
def Wd(m:Nat)(z:List Int):Prop:=∀a ∈ z,∃i:Nat,i<m/\a=(i:Int)+1
def Wd.tail{a:Int}(h:Wd m (a::z)):Wd m z:=λb hb=>h b (by simp[hb])
theorem QN{m:Nat}:∀(x:List Int),Wd m x->∀(L:Nat),x.length<=L->∀{G:List Int->R},(∀z,z≠x->G z=zero)->ws m L G=G x
 | [],_,L,_,G,h=>QM h L
 |a::t,hw,0,hl,G,h=>absurd hl (by simp)
 |a::t,hw,L+1,hl,G,h=>by
  obtain⟨i,hi,rfl⟩:=hw a (by simp);show G []+sum (λi=>ws m L (λz=>G (((i:Int)+1)::z))) m=_;rw[h [] (by simp),z0,sum_single _ hi (λj _ hj=>(BO L (λz=>h _ (λe=>hj (by
   have h1:=(List.cons.inj e).1;omega)))).trans (Di L))]
  exact QN t hw.tail L (by simp at hl;omega) (λz hz=>h _ (λe=>hz (List.cons.inj e).2))
theorem Qo{A:RM R}(h:AccR A)(hA:Inn A):∀N q,q<A.n->∀x z,x≠z->unr A N q x z=zero
 |0,_,_,_,_,_=>rfl
 |N+1,q,hq,x,z,hne=>by
  show endT A q x z+sum (λk=>arcT A (unr A N) q k x z) (A.na q)=zero;have e1:endT A q x z=zero:=ifn<|λe=>hne (e.1.trans e.2.symm);rw[e1,z0,sum_congr (g:=λ_=>zero) (λk hk=>?_),sum_zero];rw[Dl,h q k hq hk];cases h1:red (A.ain q k) x with
  |none=>exact m0 _
  |some a=>cases h2:red (A.ain q k) z with
   |none=>exact m0 _
   |some b =>
    show A.aw q k*unr A N (A.ato q k) a b=zero;rw[Qo h hA N _ (hA q k hq hk) a b (λe=>hne ?_),m0]
    rcases It h1 with⟨e1,e2⟩|⟨e1,e2⟩
    ·rcases It h2 with⟨_,e4⟩|⟨e3,_⟩
     ·rw[<-e2,<-e4,e]
     exact absurd e1 e3
    rcases It h2 with⟨e3,_⟩|⟨_,e4⟩
    ·exact absurd e3 e1
    rw[e2,e4,e]
variable[CSC R]
theorem WH{A:RM R}(h:AccR A)(d:Inn A)(g:A.start<A.n)(c:x≠z):rel A x z=zero:=by
 refine Lub.eq (Fv d g x z) ((Lub.const zero).congr (λN=>?_));rw[Qo h d N _ g x z c,m0]
theorem IsCmp.alone{f g:List Int->List Int->R}{v:R}(h:IsCmp m f g x y v)(i:Wd m z)(hf:∀z',z'≠z->f x z'=zero):v=f x z*g z y:=by
 have e:∀L,z.length<=L->ws m L (λz'=>f x z'*g z' y)=f x z*g z y:=λL d=>QN z i L d (λz' c=>by rw[hf z' c,zm]);refine le_anti (h.2 _ (λL=>?_)) ?_
 ·rw[<-e (max L z.length) (Nat.le_max_right _ _)];exact QP (Nat.le_max_left _ _) _
 rw[<-e z.length nlr];exact h.1 z.length
def IsCmp.none{f g:List Int->List Int->R}{v:R}(h:IsCmp m f g x y v)(hf:∀z',f x z'=zero):v=zero:=by
 refine le_anti (h.2 _ (λL=>?_)) (zero_le _);show le (ws m L (λz=>f x z*g z y)) zero;rw[BO L (λz=>by rw[hf z,zm]),Di];exact le_refl _
end
end
section
open Go.RowKit Go.Deep
variable{b:Nat}{w:World}{kd st:Int}{sv:Value}{d:ByteArray}{t:TypeId}
def Box4(w:World)(b:Nat)(kd st:Int)(ld:ByteArray)(sv:Value):Prop:=w.heap[b]?=some (.cells #[.int .i64 kd,.int .i64 st,.string ld,sv] 25 (0,0))
def AA(w:World)(b:Nat)(c d g i:Value){j k l m:Value}(h:w.heap[b]?=some (.cells #[j,k,l,m] t (0,0))):(w.setCells b 0 [c,d,g,i]).heap[b]?=some (.cells #[c,d,g,i] t (0,0)):=by
 simp[World.setCells,World.setCell,Array.getElem?_modify,h]
theorem Au{B:Nat}{a:World}(h:Below B a w)(hb:B<=b)(c d g i:Value):Below B a (w.setCells b 0 [c,d,g,i]) :=
 (((h.setCell (p:=(Ad b 0)) hb c).setCell (p:=(Ad b (0+1))) hb d).setCell (p:=(Ad b (0+1+1))) hb g).setCell (p:=(Ad b (0+1+1+1))) hb i
def Zj{c d g i:Value}(h:w.heap[b]?=some (.cells #[c,d,g,i] t (0,0))):w.there b 0 4:=by
 intro j k;have:j=0\/j=1\/j=2\/j=3:=by omega
 rcases this with rfl|rfl|rfl|rfl<;>simp[World.cell?,World.frozen?,h]
theorem Box4.range(h:Box4 w b kd st d sv):w.rangeAt b 0 [.int .i64 kd,.int .i64 st,.string d,sv]:=by
 intro j v c;unfold Box4 at h;have g:j<4:=by have:=(List.getElem?_eq_some_iff.1 c).1;simpa using this
 have:j=0\/j=1\/j=2\/j=3:=by omega
 rcases this with rfl|rfl|rfl|rfl<;>(simp at c;subst c;simp[World.cell?,h])
def Pn{c:ByteArray}(h:Box4 w b kd st c sv):(loadVar 25 (Ad b 0)).run prog w=.ok (.agg #[.int .i64 kd,.int .i64 st,.string c,sv]) w :=
 run_loadVar_mid (P:=prog) w b 0 25 [.int .i64 kd,.int .i64 st,.string c,sv] _ h.range underlying25 rfl (by kernel_rfl)
def OQ{fn:Func}{p:Tmp}(h:fn.results=#[.cell p 25])(c:Array Value)(g:c.getD p undef=.pointer (some (Ad b 0)))(hb:Box4 w b kd st d sv):
  (results fn c).run prog w=.ok (.agg #[.int .i64 kd,.int .i64 st,.string d,sv]) w:=by
 rw[OP h,g];show ((loadVar 25 (Ad b 0)).run prog w)=_;exact Pn hb
def AE{fn:Func}{p u:Tmp}(h:fn.results=#[.cell p 25,.tmp u])(c:Array Value){v:Value}(g:c.getD p undef=.pointer (some (Ad b 0)))(i:c.getD u undef=v)(hb:Box4 w b kd st d sv):
  (results fn c).run prog w=.ok (.tuple #[.agg #[.int .i64 kd,.int .i64 st,.string d,sv],v]) w:=by
 rw[results_cell_tmp h,g,i];show ((loadVar 25 (Ad b 0)).run prog w).andThen _=_;rw[Pn hb];rfl
def AF:Value:=.agg #[.int .i64 0,.int .i64 0,.string ⟨#[]⟩,.slice none 0 0]
theorem cells4{w:World}{rb:Nat}{c v1 d g:Value}{t:TypeId}(h:w.heap[rb]?=some (.cells #[c,v1,d,g] t (0,0))):(w.cell? (Ad rb 0)=some c/\w.cell? (Ad rb 1)=some v1/\w.cell? (Ad rb 2)=some d/\w.cell? (Ad rb 3)=some g)/\∀j,w.frozen? (Ad rb j)=false :=
 ⟨⟨by simp[World.cell?,h],by simp[World.cell?,h],by simp[World.cell?,h],by simp[World.cell?,h]⟩,λj=>by simp[World.frozen?,h]⟩
def FQ:(prog.info? 63).map (λi=>(i.zero,i.size,i.bytes))=some (some (.agg #[.string ⟨#[]⟩,.slice none 0 0]),2,40):=by kernel_rfl
def Hq:(prog.info? 59).map (λi=>(i.zero,i.size,i.bytes))=some (some (.agg #[.int .i64 0,.int .i64 0,.string ⟨#[]⟩,.int .i64 0]),4,40):=by kernel_rfl
def WW{w:World}{B d:Nat}{e:TypeId}{s n:Nat}{v:Value}{xs:List Value}(h:w.ownsRow d e s v n xs)(j:B<=d):w.ownsRow B e s v n xs :=
 ⟨h.1,h.2.imp id (λ⟨g,c,cur,k,i,r⟩=>⟨g,c,cur,k,Nat.le_trans j i,r⟩)⟩
def cpD(D:MD)(i:Nat):MD:={ D with n:=i }
def OwM.push{wr z w':World}{B i:Nat}{sv g v:Value}{D:MD}{R:Nat->Value}{o:Obj}(h:OwM wr B sv (cpD D i) R)(H:B<=wr.heap.size)(u:wr.grownBy z none)
  (F:z.ownsRow wr.heap.size 59 4 v (D.na i) (cat (arc4 D i) (D.na i)))
  (G:w'.ownsRow B 63 2 g (i+1) (cat (st2 D R) i++[.string (D.fin i),v])) (E:(z.alloc o).grownBy w' sv.ownBlock) :
  OwM w' B g (cpD D (i+1)) (λj=>if j=i then v else R j):=by
 have s:∀j,j<i->∀b,(R j).ownBlock=some b->b<wr.heap.size:=λj k b hb=>(World.ownsRow.lt (h.row j k) b hb).2;have d:∀b,v.ownBlock=some b->wr.heap.size<=b:=λb hb=>(World.ownsRow.lt F b hb).1;refine⟨?_,λj k=>?_,λj l k I p b hb=>?_⟩
 ·have e:cat (st2 (cpD D (i+1)) (λj=>if j=i then v else R j)) (i+1)=cat (st2 D R) i++[.string (D.fin i),v]:=by
   rw[Dy]
   congr 1
   ·exact DU λj k=>by simp[st2,cpD,show j≠i by omega]
   simp[st2,cpD]
  show w'.ownsRow B 63 2 g (i+1) (cat _ (i+1));rw[e];exact G
 ·by_cases e:j=i
  ·subst e;show w'.ownsRow B _ 4 (if j=j then v else R j) (D.na j) (cat (arc4 D j) (D.na j))
   rw[ifp rfl];refine AK (World.ownsRow.alloc (WW F H) o) E (λb hb m=>?_);have:=d b hb;have:=(World.ownsRow.lt h.top b m).2;omega
  have c:j<i:=by have:j<i+1:=k;omega
  show w'.ownsRow B _ 4 (if j=i then v else R j) (D.na j) (cat (arc4 D j) (D.na j))
  rw[ifn e];exact AK (World.ownsRow.alloc (AK (h.row j c) u (λb _=>by simp)) o) E (λb hb=>h.tne c hb)
 have c:j<i+1:=k;have J:l<i+1:=I;by_cases A:j=i
 ·simp only[ifp A]at hb;simp only[ifn (λe:l=i=>p (by omega))];intro m;have:=d b hb;have:=s l (by omega) b m;omega
 simp only[ifn A]at hb;by_cases C:l=i
 ·simp only[ifp C];intro m;have:=d b m;have:=s j (by omega) b hb;omega
 simp only[ifn C];exact h.apart j l (show j<i by omega) (show l<i by omega) p b hb
end
section
open Go.RowKit Go.Deep
variable{B b db n s:Nat}{w w':World}{D:MD}{R:Nat->Value}{sv v:Value}{one:ByteArray}{fl:Int}{e t:TypeId}{xs:List Value}{cs:Array Value}
def CY{o:Option TypeInfo}{z:Value}(h:o.map (λi=>(i.zero,i.size,i.bytes))=some (some z,s,b)):∃i,o=some i/\i.zero=some z/\i.size=s/\i.bytes=b:=by
 cases o with
 |none=>cases h
 |some i=>simp at h;exact⟨i,rfl,h.1,h.2.1,h.2.2⟩
def RowB(w:World)(q:Nat):Prop:=∃cs t fr,w.heap[q]?=some (.cells cs t fr)/\(t=63\/t=59)
structure Kt(db:Nat)(w w':World):Prop where
 os:w'.os=w.os
 tape:w'.tape=w.tape
 output:w'.output=w.output
 size:w.heap.size<=w'.heap.size
 block:∀q,q<w.heap.size->q≠db->¬RowB w q->w'.heap[q]?=w.heap[q]?
theorem Kt.trans{db:Nat}{w w' g:World}(h:Kt db w w')(k:Kt db w' g):Kt db w g :=
 ⟨k.os.trans h.os,k.tape.trans h.tape,k.output.trans h.output,Nat.le_trans h.size k.size,λq d hd c=>(k.block q (by have:=h.size;omega) hd (λ⟨i,t,fr,j,l⟩=>c ⟨i,t,fr,by rw[<-h.block q d hd c];exact j,l⟩)).trans (h.block q d hd c)⟩
def Kt.of_fr(h:Fr (λq=>q=db) w w'):Kt db w w':=⟨h.os,h.tape,h.output,h.size,λq c hd _=>h.block q c hd⟩
def Kt.of_own(h:w.ownsRow B e s v n xs)(l:e=63\/e=59)(c:w.grownBy w' v.ownBlock):Kt db w w' :=
 ⟨c.os,c.tape,c.output,c.size,λq m _ o=>c.block q m (λi=>by
  rcases h.2 with⟨rfl,_⟩|⟨g,j,cur,rfl,_,d,_⟩
  ·cases i
  have k:q=g:=by simpa [Value.ownBlock] using i
  subst k;exact o ⟨cur,e,_,d,l⟩)⟩
def Ap{fr:Nat × Nat}(h:w.ownsRow B e s v n xs)(hb:w.heap[b]?=some (.cells cs t fr))(j:t≠e):v.ownBlock≠some b:=by
 rcases h.2 with⟨rfl,_⟩|⟨g,d,cur,rfl,_,i,_⟩
 ·simp[Value.ownBlock]
 intro c;simp[Value.ownBlock]at c;subst c;rw[i]at hb;simp at hb;exact j hb.2.1.symm
def bcs(D:MD)(sv:Value)(one:ByteArray)(ac fl:Int):Array Value:=#[.int .i64 D.kind,.int .i64 D.start,.string D.lead,sv,.string one,.int .i64 ac,.int .i64 fl]
structure Bld(w:World)(B db:Nat)(D:MD)(R:Nat->Value)(sv:Value)(one:ByteArray)(ac fl:Int):Prop where
 blk:w.heap[db]?=some (.cells (bcs D sv one ac fl) 144 (0,0))
 own:OwM w B sv D R
 low:B<=db
def Bld.lt{c:Int}(h:Bld w B db D R sv one c fl):db<w.heap.size:=(Array.getElem?_eq_some_iff.1 h.blk).1
section
variable{w:World}{db:Nat}{D:MD}{sv:Value}{one:ByteArray}{ac fl:Int}{t:TypeId}(h:w.heap[db]?=some (.cells (bcs D sv one ac fl) t (0,0)))
include h
theorem BlkB.c0:w.cell? (Ad db 0)=some (.int .i64 D.kind):=by unfold bcs at h;simp[World.cell?,h]
theorem BlkB.c1:w.cell? (Ad db 1)=some (.int .i64 D.start):=by unfold bcs at h;simp[World.cell?,h]
theorem BlkB.c2:w.cell? (Ad db 2)=some (.string D.lead):=by unfold bcs at h;simp[World.cell?,h]
theorem BlkB.c3:w.cell? (Ad db 3)=some sv:=by unfold bcs at h;simp[World.cell?,h]
theorem BlkB.c4:w.cell? (Ad db 4)=some (.string one):=by unfold bcs at h;simp[World.cell?,h]
theorem BlkB.c5:w.cell? (Ad db 5)=some (.int .i64 ac):=by unfold bcs at h;simp[World.cell?,h]
theorem BlkB.c6:w.cell? (Ad db 6)=some (.int .i64 fl):=by unfold bcs at h;simp[World.cell?,h]
theorem BlkB.fz(j:Nat):w.frozen? (Ad db j)=false:=by simp[World.frozen?,h]
theorem BlkB.set3(v:Value):(w.setCell (Ad db 3) v).heap[db]?=some (.cells (bcs D v one ac fl) t (0,0)):=by
 unfold bcs at h ⊢;simp[World.setCell,Array.getElem?_modify,h]
theorem BlkB.set5(a:Int):(w.setCell (Ad db 5) (.int .i64 a)).heap[db]?=some (.cells (bcs D sv one a fl) t (0,0)):=by
 unfold bcs at h ⊢;simp[World.setCell,Array.getElem?_modify,h]
end
def Fre(w:World)(sv:Value)(R:Nat->Value)(n b:Nat):Prop:=b<w.heap.size/\sv.ownBlock≠some b/\∀i,i<n->(R i).ownBlock≠some b
def FrK(db:Nat)(w:World)(sv:Value)(R:Nat->Value)(n:Nat)(w':World)(sv':Value)(R':Nat->Value)(n':Nat):Prop:=∀b,b≠db->Fre w sv R n b->Fre w' sv' R' n' b/\w'.heap[b]?=w.heap[b]?
def BlE(B db:Nat)(n:Nat)(R:Nat->Value)(sv:Value)(D':MD)(one:ByteArray)(ac' fl:Int)(w w':World):Prop:=(∃R' sv',Bld w' B db D' R' sv' one ac' fl/\FrK db w sv R n w' sv' R' D'.n)/\Below B w w'
theorem CF{fr:Nat × Nat}(h:w.heap[b]?=some (.cells cs t fr)):∀j u,cs.toList[j]?=some u->w.cell? (((Ad b 0):Addr).add j)=some u:=by
 intro j u c;rw[Addr.add_lit,Nat.zero_add];simp[World.cell?,h]
 simpa using c
theorem IQ{f:ByteArray}:∀u ∈ [Value.string f,Value.slice none 0 0],u.oneCell'=true:=by intro u c;simp at c;rcases c with rfl|rfl<;>rfl
theorem RR(f:ByteArray)(w:World){N:Int}(h:Bld w B db D R sv one N fl)(hB:B<=w.heap.size)(hn:D.n<=100000):
  Calls prog 111 #[.pointer (some (Ad db 0)),.string f] w (λr w'=>r=.returned (.int .i64 (D.n:Int))/\BlE B db D.n R sv (D.state f) one N fl w w'):=by
 obtain⟨i0,hi,X,Y,Z⟩:=CY FQ;obtain⟨E,j⟩:=exq<|w.alloc (.cells #[.string f,.slice none 0 0] 63);obtain⟨H,hH⟩:=exq<|w.heap.size;have Q:w.grownBy E none:=by rw[j];exact World.grownBy_alloc _ _ _
 have s:E.ownsRow B 63 2 sv D.n (cat (st2 D R) D.n):=by rw[j];exact World.ownsRow.alloc h.own.top _
 have T:E.heap[H]?=some (.cells #[.string f,.slice none 0 0] 63 (0,0)):=by rw[j,hH];exact han w _
 have l:E.heap[db]?=some (.cells (bcs D (sv) one N fl) 144 (0,0)):=by rw[j,blk_alloc_lt _ _ _ h.lt];exact h.blk
 have c4:E.cell? (Ad db 3)=some sv:=BlkB.c3 l;have a9:w.cell? (Ad db 3)=some sv:=BlkB.c3 h.blk;have b0:E.heap.size=H+1:=by rw[j,hH];simp
 obtain⟨sa,sc,a7,_,_⟩:=Ax h.own.top;subst a7;have o:∀C,(w.alloc (.cells #[.string f,.slice none 0 0] 63)).grownBy C (Value.slice sa D.n sc).ownBlock->C.heap[db]?=some (.cells (bcs D (.slice sa D.n sc) one N fl) 144 (0,0)):=λC hg=>by
  rw[<-j]at hg;exact(hg.block db (lbk l) (λe=>Ap s l (by decide) e.symm)).trans l
 replace o:=qh o;replace h:=qh h;replace s:=qh s;replace T:=qh T;replace l:=qh l;replace Q:=qh Q;have HI:=qh hi;have a1:=qh X;have a2:=qh Y;have a4:=qh Z;clear hi X Y Z;replace hH:=qh hH;have a8:=qh j
 go_enter func111,ntmps111
 go_wp2_with (at_builtin;refine wpList_append_lies _ rfl (.tmp 10) (.tmp 13) 23 rfl B 63 i0 (.agg #[.string ⟨#[]⟩,.slice none 0 0]) 2 40 underlying23 HI.o a1.o a2.o a4.o rfl (by omega) (.slice sa D.n sc) D.n _ (by first|rfl|simp[Act.eval,Act.put]) (World.ownsRow.alloc h.o.own.top _) (Ad w.heap.size 0) 1 1 [.string f,.slice none 0 0] (by first|rfl|simp[Act.eval,Act.put]) rfl (CF (cs:=#[.string f,.slice none 0 0]) (han w _)) IQ (by omega) (by unfold maxLen;omega) (by omega) (by simp;omega) _ rfl ?_;intro F L C u c O a5;have m:=o.o C c;have e4:=BlkB.c3 m;have f4:=BlkB.fz m 3)
 have g:C.ownsRow B 63 2 (.slice (some (Ad F 0)) (D.n+1) L) (D.n+1) (cat (st2 D R) D.n++[.string f,.slice none 0 0]):=u;have J:=h.o.own.state g c;have W:(Value.slice (some (Ad F 0)) (D.n+1) L).ownBlock≠some db:=Ap g m (by decide);have U:∀i,i<(D.state f).n->((λi=>if i=D.n then Value.slice none 0 0 else R i) i).ownBlock≠some db:=λi hi=>Ap (J.row i hi) m (by decide)
 obtain⟨K,d⟩:=exq<|C.setCell ⟨db,3,none⟩ (.slice (some ⟨F,0,none⟩) (D.n+1) L);have z:OwM K B (.slice (some (Ad F 0)) (D.n+1) L) (D.state f) (λi=>if i=D.n then .slice none 0 0 else R i):=by rw[d];exact J.other (p:=(Ad db 3)) W U _
 have A:K.heap[db]?=some (.cells (bcs D (.slice (some (Ad F 0)) (D.n+1) L) one N fl) 144 (0,0)):=by rw[d];exact BlkB.set3 m _
 have S:Kt db w K:=by
  have h1:Kt db w (w.alloc (.cells #[.string f,.slice none 0 0] 63)):=Kt.of_fr<|Fr.alloc _ _;have h2:=Kt.of_own (db:=db) (World.ownsRow.alloc h.o.own.top (.cells #[.string f,.slice none 0 0] 63)) (.inl rfl) c;rw[d];exact(h1.trans h2).trans (Kt.of_fr ((Fr.refl (λq=>q=db) C).set (p:=(Ad db 3)) (.inl rfl) _))
 have I:FrK db w (.slice sa D.n sc) R D.n K (.slice (some (Ad F 0)) (D.n+1) L) (λi=>if i=D.n then .slice none 0 0 else R i) (D.n+1):=by
  intro b hb hf;have P:b<(w.alloc (.cells #[.string f,.slice none 0 0] 63)).heap.size:=by have:=hf.1;simp;omega
  refine⟨⟨by rw[d,nblk_setCell];exact Nat.lt_of_lt_of_le P c.size,?_,λi hi=>?_⟩,?_⟩
  ·intro e;have e2:F=b:=by simpa [Value.ownBlock] using e
   subst e2
   rcases O with h1|h1
   ·exact hf.2.1 h1
   omega
  ·dsimp only
   split
   ·simp[Value.ownBlock]
   exact hf.2.2 i (by omega)
  rw[d,AN hb];exact(c.block b P (λe=>hf.2.1 e.symm)).trans (blk_alloc_lt _ _ _ hf.1)
 replace I:=qh I;have G:Below B w K:=by
  rw[d];exact((((Below.refl B w).alloc hB (.cells #[.string f,.slice none 0 0] 63)).grown c (by simp;omega) (λk hk=>(World.ownsRow.lt (World.ownsRow.alloc h.o.own.top (.cells #[.string f,.slice none 0 0] 63)) k hk).1)).setCell (p:=(Ad db 3)) h.o.low _)
 replace z:=qh z;clear J;replace S:=qh S;replace G:=qh G;clear g u c O a5 W U;have c3:=BlkB.c3 A;replace A:=qh A;clear m;rw[<-d];replace d:=qh d;clear e4 f4;have a6:((D.n+1:Nat):Int)-1=(D.n:Int):=by omega
 go_wp2;go_ret;exact⟨by first|rfl|(rw[a6])|(go_num),⟨_,_,⟨A.o,z.o,h.o.low⟩,I.o⟩,G.o⟩
theorem Ho{a b t:Int}{x:ByteArray}:∀u ∈ [Value.int .i64 a,Value.int .i64 b,Value.string x,Value.int .i64 t],u.oneCell'=true:=by intro u c;simp at c;rcases c with rfl|rfl|rfl|rfl<;>rfl
theorem RF{q:Nat}(a b t:Int)(x:ByteArray)(w:World){ac:Int}(h:Bld w B db D R sv one ac fl)(e0:0<=ac)(e3:ac<=100000)(hB:B<=w.heap.size)(hq:q<D.n)(hn:D.n<=100000)(e6:D.na q<=100000):
  Calls prog 112 #[.pointer (some (Ad db 0)),.int .i64 (q:Int),.agg #[.int .i64 a,.int .i64 b,.string x,.int .i64 t]] w (λr w'=>r=.returned (.tuple #[])/\BlE B db D.n R sv (D.arc q a b x t) one (ac+1) fl w w'):=by
 obtain⟨i0,hi,b8,b9,d0⟩:=CY Hq;have e7:(q:Int)<(D.n:Int):=by omega
 have e1:(0:Int)<=(q:Int):=by omega
 obtain⟨g,T,rfl,_,_,_,_⟩:=DI h.own.top (by omega);obtain⟨ra,rc,N,_,_⟩:=Ax<|h.own.row q hq;obtain⟨w1,F⟩:=exq<|w.alloc (.cells #[.int .i64 a,.int .i64 b,.string x,.int .i64 t] 59);obtain⟨l,m⟩:∃l,l=(w1.setCell ⟨db,5,none⟩ (.int .i64 (ac+1))).drew:=⟨_,rfl⟩;obtain⟨H,hH⟩:=exq<|w.heap.size;have a5:l.heap.size=H+1:=by
  rw[m];show (w1.setCell (Ad db 5) (.int .i64 (ac+1))).heap.size=_;rw[nblk_setCell,F,hH];simp
 have C:w1.heap[db]?=some (.cells (bcs D (.slice (some (Ad g 0)) D.n T) one ac fl) 144 (0,0)):=by rw[F,blk_alloc_lt _ _ _ h.lt];exact h.blk
 have c5:=BlkB.c5 C;have f5:=BlkB.fz C 5;rw[F]at c5 f5;have b5:Fr (λq=>q=db) w w1:=by rw[F];exact Fr.alloc _ _
 have W:Fr (λq=>q=db) w l:=by rw[m];exact(b5.set (p:=(Ad db 5)) (.inl rfl) _).drew
 have X:l.heap[H]?=some (.cells #[.int .i64 a,.int .i64 b,.string x,.int .i64 t] 59 (0,0)):=by
  rw[m];show (w1.setCell (Ad db 5) (.int .i64 (ac+1))).heap[H]?=_;rw[AN (show H≠db by have:=h.lt;omega),F,hH];exact han w _
 have L:l.heap[db]?=some (.cells (bcs D (.slice (some (Ad g 0)) D.n T) one (ac+1) fl) 144 (0,0)):=by rw[m];exact BlkB.set5 C _
 have P:OwM w1 B (.slice (some (Ad g 0)) D.n T) D R:=h.own.kept (z:=none) (by rw[F];exact World.grownBy_alloc _ _ _) (by simp);have Q:=P.other (p:=(Ad db 5)) (Ap P.top C (by decide)) (λi hi=>Ap (P.row i hi) C (by decide)) (.int .i64 (ac+1));have A:OwM l B (.slice (some (Ad g 0)) D.n T) D R:=by rw[m];exact⟨Q.top,Q.row,Q.apart⟩
 clear P Q b5 C;have j:l.cell? (Ad db 3)=some (.slice (some (Ad g 0)) D.n T)/\l.cell? (Ad g (q*2+1))=some (.slice ra (D.na q) rc)/\l.cell? (Ad H 0)=some (.int .i64 a)/\l.cell? (Ad H 1)=some (.int .i64 b)/\l.cell? (Ad H 2)=some (.string x)/\l.cell? (Ad H 3)=some (.int .i64 t) :=
  ⟨BlkB.c3 L,by rw[A.arcs_cell hq,N],by simp[World.cell?,X],by simp[World.cell?,X],by simp[World.cell?,X],by simp[World.cell?,X]⟩
 have a2:∀i,i<D.n->(R i).ownBlock≠some db:=λi hi=>Ap (A.row i hi) L (by decide);have I:(R q).ownBlock≠some g:=λe=>A.tne hq e rfl;have HI:=qh hi;have d1:=qh b8;have d2:=qh b9;have d3:=qh d0;clear hi b8 b9 d0;replace h:=qh h;replace A:=qh A;replace L:=qh L;replace X:=qh X;replace W:=qh W;replace N:=qh N;replace a2:=qh a2;replace I:=qh I
 go_enter func112,ntmps112
 go_wp2_with fail
 refine AB (λZ=>Z.cell? (Ad db 3)=some (.slice (some (Ad g 0)) D.n T)/\Z.cell? (Ad g (q*2+1))=some (.slice ra (D.na q) rc)/\Z.cell? (Ad H 0)=some (.int .i64 a)/\Z.cell? (Ad H 1)=some (.int .i64 b)/\Z.cell? (Ad H 2)=some (.string x)/\Z.cell? (Ad H 3)=some (.int .i64 t)) 20 (by kernel_rfl) ?_;rw[<-F,<-m,<-hH];clear c5 f5;replace F:=qh F;replace m:=qh m;replace hH:=qh hH;refine Aa.tm 0 j ?_;refine Aa.tm 1 j ?_;refine Aa.tm 2 j ?_;refine Aa.tm 3 j ?_;refine Aa.tm 4 j ?_;refine Aa.tm 5 j ?_;refine Aa.tm 6 j ?_;refine Aa.tm 7 j ?_;refine Aa.tm 8 j ?_;refine Aa.tm 9 j ?_;refine Aa.tm 10 j ?_;refine Aa.tm 11 j ?_;refine Aa.tm 12 j ?_;refine Aa.tm 13 j ?_;refine Aa.tm 14 j ?_;refine Aa.tm 15 j ?_
 try simp only[Act.put,tryL]
 refine Aa.on 16 λK hK=>?_;go_simp;obtain⟨O,u⟩:=exq<|l.alloc (.cells #[.int .i64 a,.int .i64 b,.string x,.int .i64 t] 59);have s:l.grownBy O none:=by rw[u];exact World.grownBy_alloc _ _ _
 have b1:O.heap[H+1]?=some (.cells #[.int .i64 a,.int .i64 b,.string x,.int .i64 t] 59 (0,0)):=by rw[u,<-a5];exact han l _
 have e8:O.heap.size=H+1+1:=by rw[u];simp[a5]
 have U:O.cell? (Ad db 3)=some (.slice (some (Ad g 0)) D.n T)/\O.cell? (Ad g (q*2+1))=some (.slice ra (D.na q) rc)/\O.cell? (Ad H 0)=some (.int .i64 a)/\O.cell? (Ad H 1)=some (.int .i64 b)/\O.cell? (Ad H 2)=some (.string x)/\O.cell? (Ad H 3)=some (.int .i64 t) :=
  ⟨s.cell j.1 (by simp),s.cell j.2.1 (by simp),s.cell j.2.2.1 (by simp),s.cell j.2.2.2.1 (by simp),s.cell j.2.2.2.2.1 (by simp),s.cell j.2.2.2.2.2 (by simp)⟩
 have S:O.ownsRow B 59 4 (.slice ra (D.na q) rc) (D.na q) (cat (arc4 D q) (D.na q)):=by rw[u,<-N.o];exact World.ownsRow.alloc (A.o.row q hq) _
 have b2:B<=O.heap.size:=by have:=hH.o;omega
 rw[<-u];replace u:=qh u;replace b1:=qh b1;refine hK.out _ _ (.inr U) ?_;clear hK K
 try simp only[Act.put,tryL]
 refine Aa.on 17 λK hK=>?_;refine wp_append_lies _ (.tmp 27) (.tmp 29) 61 rfl B 59 i0 (.agg #[.int .i64 0,.int .i64 0,.string ⟨#[]⟩,.int .i64 0]) 4 40 underlying61 HI.o d1.o d2.o d3.o rfl (by omega) (.slice ra (D.na q) rc) (D.na q) _ (by simp[Act.eval]) S (Ad (H+1) 0) 1 1 [.int .i64 a,.int .i64 b,.string x,.int .i64 t] (by simp[Act.eval]) rfl (CF (cs:=#[.int .i64 a,.int .i64 b,.string x,.int .i64 t]) b1.o) Ho (by omega) (by unfold maxLen;omega) (by omega) b2 _ rfl ?_;intro go cq J a4 E a7 d8;have d:O.grownBy J (R q).ownBlock:=by rw[N.o];exact E
 have G:J.heap[db]?=some (.cells (bcs D (.slice (some (Ad g 0)) D.n T) one (ac+1) fl) 144 (0,0)) :=
  (d.block db (by have:=lbk L.o;have:=s.size;omega) (λe=>a2.o q hq e.symm)).trans ((s.block db (lbk L.o) (by simp)).trans L.o)
 have e5:g<l.heap.size:=(World.ownsRow.lt A.o.top g rfl).2;have d5:J.cell? (Ad g (q*2+1))=some (.slice ra (D.na q) rc):=d.cell U.2.1 (λe=>I.o e.symm);have b6:∀c,(Value.slice (some (Ad go 0)) (D.na q+1) cq).ownBlock=some c->(R q).ownBlock=some c\/l.heap.size<=c:=λc hc=>by
  have e:go=c:=by simpa [Value.ownBlock] using hc
  subst e
  rcases a7 with h1|h1
  ·exact .inl (by rw[N.o];exact h1)
  right;omega
 have a1:=A.o.arc (a:=a) (b:=b) (x:=x) (t:=t) (v':=.slice (some (Ad go 0)) (D.na q+1) cq) hq a4 (o:=.cells #[.int .i64 a,.int .i64 b,.string x,.int .i64 t] 59) (by rw[<-u.o];exact d) b6;have e4:J.frozen? (Ad g (q*2+1))=false:=by
  have h1:J.ownsRow B 63 2 (.slice (some (Ad g 0)) D.n T) D.n (cat (st2 D R) D.n):=AK (by rw[u.o];exact World.ownsRow.alloc A.o.top _) d (λc hc e=>by
   have e2:g=c:=by simpa [Value.ownBlock] using hc
   subst e2;exact I.o e)
  exact EA h1 _
 have a6:J.cell? (Ad db 3)=some (.slice (some (Ad g 0)) D.n T)/\J.cell? (Ad g (q*2+1))=some (.slice ra (D.na q) rc)/\J.cell? (Ad H 0)=some (.int .i64 a)/\J.cell? (Ad H 1)=some (.int .i64 b)/\J.cell? (Ad H 2)=some (.string x)/\J.cell? (Ad H 3)=some (.int .i64 t):=by
  have Y:some H≠(R q).ownBlock:=λe=>by have:=(World.ownsRow.lt (h.o.own.row q hq) H e.symm).2;rw[<-hH.o]at this;omega
  exact⟨BlkB.c3 G,d5,d.cell U.2.2.1 Y,d.cell U.2.2.2.1 Y,d.cell U.2.2.2.2.1 Y,d.cell U.2.2.2.2.2 Y⟩
 have a9:FrK db w (.slice (some (Ad g 0)) D.n T) R D.n (J.setCell (Ad g (q*2+1)) (.slice (some (Ad go 0)) (D.na q+1) cq)) (.slice (some (Ad g 0)) D.n T) (λi=>if i=q then .slice (some (Ad go 0)) (D.na q+1) cq else R i) D.n:=by
  intro b hb hf;have d4:b≠g:=λe=>hf.2.1 (by rw[e];rfl);have b3:b<l.heap.size:=Nat.lt_of_lt_of_le hf.1 W.o.size;have b4:b<O.heap.size:=Nat.lt_of_lt_of_le b3 s.size;refine⟨⟨by rw[nblk_setCell];exact Nat.lt_of_lt_of_le b4 d.size,hf.2.1,λi hi=>?_⟩,?_⟩
  ·dsimp only
   split
   ·intro e;have e2:go=b:=by simpa [Value.ownBlock] using e
    subst e2
    rcases a7 with h1|h1
    ·exact hf.2.2 q hq (by rw[N.o];exact h1)
    omega
   exact hf.2.2 i hi
  rw[AN d4];exact(d.block b b4 (λe=>hf.2.2 q hq e.symm)).trans ((s.block b b3 (by simp)).trans (W.o.block b hf.1 hb))
 replace a9:=qh a9;have b7:Kt db w J:=by
  have h2:=Kt.of_own (db:=db) (S) (.inr rfl) E;exact((Kt.of_fr W.o).trans (Kt.of_fr (Fr.of_gb s (by simp)))).trans h2
 have a8:Below B w J:=((W.o.below hB (λq e=>by rw[e];exact h.o.low)).trans (((Below.refl B l).alloc (by have:=hH.o;omega) _))).grown (by rw[<-u.o];exact E) (by rw[<-u.o];exact b2) (λk hk=>(World.ownsRow.lt S k hk).1);replace a1:=qh a1;replace G:=qh G;replace b7:=qh b7;replace a8:=qh a8;have b0:∃cs fr,J.heap[g]?=some (.cells cs 63 fr):=by
  have h1:J.ownsRow B 63 2 (.slice (some (Ad g 0)) D.n T) D.n (cat (st2 D R) D.n):=AK (by rw[u.o];exact World.ownsRow.alloc A.o.top _) d (λc hc e=>by
   have e2:g=c:=by simpa [Value.ownBlock] using hc
   subst e2;exact I.o e)
  rcases h1.2 with⟨hv,_⟩|⟨g',d9,cur,hv,_,d6,_⟩
  ·cases hv
  cases hv;exact⟨cur,_,d6⟩
 replace b0:=qh b0;clear a4 E d a7 d8 b6 S s;refine hK.out _ _ (.inr a6) ?_;clear hK K
 try simp only[Act.put,tryL]
 refine Aa.tm 18 a6 ?_;refine Aa.tm 19 a6 ?_
 try simp only[Act.put,tryL]
 refine Aa.on 20 λK hK=>?_;go_simp;refine hK.out _ _ (.inl rfl) (Aa.dn ?_);clear hK K
 go_wp2_with fail
 go_end0
 have d7:B<=g:=(World.ownsRow.lt A.o.top g rfl).1;refine⟨rfl,⟨_,_,⟨?_,a1.o,h.o.low⟩,a9.o⟩,a8.o.setCell (p:=(Ad g (q*2+1))) d7 _⟩;have Y:db≠g:=λe=>by
  obtain⟨cs,fr,h1⟩:=b0.o;rw[<-e,G.o]at h1;simp at h1
 rw[AN (show db≠g from Y)];exact G.o
end
section
open Go.RowKit Go.Deep
variable{w:World}{d:Nat}
def plV(x:Plc):Value:=.agg #[.int .i64 (x.1:Int),.int .i64 (x.2.1:Int),.bool x.2.2]
def plOk(x:Plc):Prop:=x.1<=1000000/\x.2.1<=1000000
def VP{x y:Plc}(h:plV x=plV y):x=y:=by
 obtain⟨p,q,f⟩:=x;obtain⟨d,g,i⟩:=y;simp only[plV,Value.agg.injEq,Array.mk.injEq,List.cons.injEq,Value.int.injEq,Value.bool.injEq,true_and,and_true]at h;obtain⟨j,k,c⟩:=h;rw[show p=d by omega,show q=g by omega,c]
theorem lawP:Maps.Keyed prog 74:=Maps.Keyed.of_law<|deep_law_laid (m:=3) (by kernel_rfl) (by omega) (of_decide_eq_true (by kernel_rfl)) (by kernel_rfl) (by kernel_rfl)
def keyP{x:Plc}(h:plOk x):∃l,keyOf prog 74 (plV x)=some l:=by
 obtain⟨p,q,c⟩:=x;have s:p<=1000000:=h.1;have u:q<=1000000:=h.2;have g:prog.keyType 74=true:=by kernel_rfl
 have d:prog.cellsOf 74=3:=by kernel_rfl
 have i:prog.cellsOf 3=1:=by kernel_rfl
 have j:prog.cellsOf 4=1:=by kernel_rfl
 have m:(Lit.int .i64 (p:Int)).wf=true:=by simp[Lit.wf,IntKind.min,IntKind.max,IntKind.signed,IntKind.bits];omega
 have o:(Lit.int .i64 (q:Int)).wf=true:=by simp[Lit.wf,IntKind.min,IntKind.max,IntKind.signed,IntKind.bits];omega
 obtain⟨N,k⟩:∃N,prog.types.size=N+1:=⟨prog.types.size-1,by kernel_rfl⟩;have e:prog.keyLits (prog.types.size+1) 74 [.int .i64 (p:Int),.int .i64 (q:Int),.bool c]=some [.int .i64 p,.int .i64 q,.bool c]:=by
  rw[k];simp[Program.keyLits,underlying74,underlying3,underlying4,d,i,j,m,o]
 have hf:(plV (p,q,c)).formed prog 74=true:=by simp[Value.formed,underlying74,Value.cells,plV,d]
 refine⟨.string (keyBytes [.int .i64 p,.int .i64 q,.bool c]),?_⟩;unfold keyOf;rw[show prog.underlying 74=_ from underlying74];show (if (prog.keyType 74&&(plV (p,q,c)).formed prog 74)=true then ((prog.keyLits (prog.types.size+1) 74 [.int .i64 (p:Int),.int .i64 (q:Int),.bool c]).map λls=>Lit.string (keyBytes ls)) else none)=_
 rw[g,hf,e];rfl
def VQ{n:Nat}(h:n<=1000000):plainElem (H:=Unit) prog 3 (.int .i64 (n:Int))=some (.lit (.int .i64 (n:Int)),[]):=plainElem_int underlying3 (by simp[Lit.wf,IntKind.min,IntKind.max,IntKind.signed,IntKind.bits];omega)
def Zh(w:World):(zeroValue 3).run prog w=.ok (.int .i64 0) w:=by kernel_rfl
def MpP(w:World)(pb:Nat)(l:List Plc):Prop:=∃D:DataW Unit,w.ownsMap prog 74 (plainElem prog 3) pb l.length D/\Maps.IsMap D/\∀x kl,keyOf prog 74 (plV x)=some kl->∀z:Int,D.atKey kl (.lit (.int .i64 z))=.lit (.int .i64 (if x ∈ l then (posP l x:Int) else z))
def MpP.made(w:World):MpP (w.alloc (.map #[] 0)) w.heap.size []:=⟨.map [],World.ownsMap_made w _ _ _,⟨[],rfl⟩,λ_ _ _ _=>by rw[ifn (by simp)];rfl⟩
def MpP.kept{w':World}{l:List Plc}(h:MpP w d l)(m:w'.heap[d]?=w.heap[d]?):MpP w' d l:=by
 obtain⟨D,⟨g,c,hb,i⟩,j,k⟩:=h;exact⟨D,⟨g,c,m.trans hb,i⟩,j,k⟩
def MpP.block{i:Nat}{l:List Plc}(h:MpP w i l){b:Nat}{c:Array Value}{t:TypeId}{f:Nat × Nat}(hb:w.heap[b]?=some (.cells c t f)):b≠i:=by
 obtain⟨D,⟨j,d,g,_⟩,_⟩:=h;rintro rfl;rw[hb]at g;cases g
def MpP.lt{l:List Plc}(h:MpP w d l):d<w.heap.size:=by
 obtain⟨D,⟨i,c,g,_⟩,_⟩:=h;exact(Array.getElem?_eq_some_iff.1 g).1
def MpP.look{z:Nat}{l:List Plc}(h:MpP w z l){x:Plc}(B:plOk x):
  (Instr.lookup 67 (.map (some z)) (plV x) true).run prog w=.ok (.tuple #[.int .i64 (if x ∈ l then (posP l x:Int) else 0),.bool (decide (x ∈ l))]) w:=by
 obtain⟨D,⟨E,k,hb,F,G,rfl⟩,_,m⟩:=h;obtain⟨p,i⟩:=keyP B
 rcases Maps.fit_look true lawP underlying67 (Zh w) hb F i with⟨d,_,g⟩|⟨C,y,_,_,d,o,g,_⟩
 ·have s:x ∉ l:=λj=>by
   have a:=(g (.lit (.int .i64 ((posP l x:Int)+1)))).symm.trans (m x p i ((posP l x:Int)+1));rw[ifp j]at a;simp only[DataW.lit.injEq,Lit.int.injEq,true_and]at a;omega
  rw[d,ifn s,decide_eq_false s];rfl
 obtain⟨c,A,u,_⟩:=plainElem_int_inv underlying3 o;by_cases j:x ∈ l
 ·have a:=(g (.lit (.int .i64 0))).symm.trans (m x p i 0);rw[ifp j,u]at a;simp only[DataW.lit.injEq,Lit.int.injEq,true_and]at a;rw[d,A,ifp j,decide_eq_true j,a];rfl
 have a:=(g (.lit (.int .i64 (c+1)))).symm.trans (m x p i (c+1));rw[ifn j,u]at a;simp only[DataW.lit.injEq,Lit.int.injEq,true_and]at a;omega
theorem MpP.put{s:World}{p:Nat}{l:List Plc}{x:Plc}{d:Lit}{D:DataW Unit}(m:Maps.IsMap D)(k:∀x d,keyOf prog 74 (plV x)=some d->∀z:Int,D.atKey d (.lit (.int .i64 z))=.lit (.int .i64 (if x ∈ l then (posP l x:Int) else z)))(o:x ∉ l)
  (i:keyOf prog 74 (plV x)=some d) (j:s.ownsMap prog 74 (plainElem prog 3) p (l.length+1) (D.put d (.lit (.int .i64 (l.length:Int))))):MpP s p (l++[x]):=by
 refine⟨_,by rw[List.length_append];exact j,m.put _ _,λy ky g z=>?_⟩;by_cases e:y=x
 ·subst e;rw[i]at g;cases g;rw[Maps.atKey_put_same m (lawP.key i),ifp (by simp)];have c:posP (l++[y]) y=l.length:=by
   clear j k
   induction l with
   |nil=>show (if y=y then 0 else _)=0;rw[ifp rfl]
   |cons a t ih =>
    show (if a=y then 0 else posP (t++[y]) y+1)=_
    rw[ifn (λe=>o (by rw[e];simp)),ih (λe=>o (by simp[e]))];rfl
  rw[c]
 rw[Maps.atKey_put_other (λh:ky=d=>e (VP (lawP.inj (l:=d) (by rw[<-h];exact g) i))),k y ky g z];by_cases c:y ∈ l
 ·rw[ifp c,ifp (List.mem_append_left _ c),Ko _ c]
 rw[ifn c,ifn (λh=>(List.mem_append.1 h).elim c (λh=>e (by simpa using h)))]
end
section
open Go.RowKit Go.Deep
variable{b c n:Nat}{fl:Int}{w:World}{sv:Value}{D:MD}{R:Nat->Value}
def Ay{j:Nat}{v:Value}(h:b≠c):(w.setCell (Ad c j) v).heap[b]?=w.heap[b]?:=AN (p:=(Ad c j)) h v
def ccs(A B:MD)(sa sb:Value)(D:MD)(sv:Value)(pb:Nat)(qv:Value)(ac fl:Int):Array Value :=
 #[.int .i64 A.kind,.int .i64 A.start,.string A.lead,sa,.int .i64 B.kind,.int .i64 B.start,.string B.lead,sb,.int .i64 D.kind,.int .i64 D.start,.string D.lead,sv,.map (some pb),qv,.int .i64 ac,.int .i64 fl]
def plC(x:Plc):List Value:=[.int .i64 (x.1:Int),.int .i64 (x.2.1:Int),.bool x.2.2]
def plL(l:List Plc):List Value:=l.flatMap plC
theorem Ot(l:List Plc)(x:Plc):plL (l++[x])=plL l++plC x:=by unfold plL;simp
section
variable{w:World}{cb:Nat}{A B:MD}{sa sb:Value}{D:MD}{sv:Value}{pb:Nat}{qv:Value}{ac fl:Int}{t:TypeId}(h:w.heap[cb]?=some (.cells (ccs A B sa sb D sv pb qv ac fl) t (0,0)))
include h
theorem Ccs.c0:w.cell? (Ad cb 0)=some (.int .i64 A.kind):=by unfold ccs at h;simp[World.cell?,h]
theorem Ccs.c3:w.cell? (Ad cb 3)=some sa:=by unfold ccs at h;simp[World.cell?,h]
theorem Ccs.c7:w.cell? (Ad cb 7)=some sb:=by unfold ccs at h;simp[World.cell?,h]
theorem Ccs.c8:w.cell? (Ad cb 8)=some (.int .i64 D.kind):=by unfold ccs at h;simp[World.cell?,h]
theorem Ccs.c9:w.cell? (Ad cb 9)=some (.int .i64 D.start):=by unfold ccs at h;simp[World.cell?,h]
theorem Ccs.c10:w.cell? (Ad cb 10)=some (.string D.lead):=by unfold ccs at h;simp[World.cell?,h]
theorem Ccs.c11:w.cell? (Ad cb 11)=some sv:=by unfold ccs at h;simp[World.cell?,h]
theorem Ccs.c12:w.cell? (Ad cb 12)=some (.map (some pb)):=by unfold ccs at h;simp[World.cell?,h]
theorem Ccs.c13:w.cell? (Ad cb 13)=some qv:=by unfold ccs at h;simp[World.cell?,h]
theorem Ccs.c14:w.cell? (Ad cb 14)=some (.int .i64 ac):=by unfold ccs at h;simp[World.cell?,h]
theorem Ccs.c15:w.cell? (Ad cb 15)=some (.int .i64 fl):=by unfold ccs at h;simp[World.cell?,h]
theorem Ccs.fz(j:Nat):w.frozen? (Ad cb j)=false:=by simp[World.frozen?,h]
theorem Ccs.set11(v:Value):(w.setCell (Ad cb 11) v).heap[cb]?=some (.cells (ccs A B sa sb D v pb qv ac fl) t (0,0)):=by
 unfold ccs at h ⊢;simp[World.setCell,Array.getElem?_modify,h]
theorem Ccs.set13(v:Value):(w.setCell (Ad cb 13) v).heap[cb]?=some (.cells (ccs A B sa sb D sv pb v ac fl) t (0,0)):=by
 unfold ccs at h ⊢;simp[World.setCell,Array.getElem?_modify,h]
theorem Ccs.set14(a:Int):(w.setCell (Ad cb 14) (.int .i64 a)).heap[cb]?=some (.cells (ccs A B sa sb D sv pb qv a fl) t (0,0)):=by
 unfold ccs at h ⊢;simp[World.setCell,Array.getElem?_modify,h]
theorem Ccs.set15(a:Int):(w.setCell (Ad cb 15) (.int .i64 a)).heap[cb]?=some (.cells (ccs A B sa sb D sv pb qv ac a) t (0,0)):=by
 unfold ccs at h ⊢;simp[World.setCell,Array.getElem?_modify,h]
end
structure Cps(w:World)(B0 cb:Nat)(A B:MD)(sa sb:Value)(la lq:List Plc)(D:MD)(R:Nat->Value)(sv:Value)(pb:Nat)(qv:Value)(ac fl:Int):Prop where
 blk:w.heap[cb]?=some (.cells (ccs A B sa sb D sv pb qv ac fl) 70 (0,0))
 own:OwM w B0 sv D R
 que:w.ownsRow B0 74 3 qv lq.length (plL lq)
 mp:MpP w pb la
 low:B0<=cb
 lowp:B0<=pb
def FreP(w:World)(sv:Value)(R:Nat->Value)(n:Nat)(pb:Nat)(qv:Value)(b:Nat):Prop:=b<w.heap.size/\b≠pb/\sv.ownBlock≠some b/\(∀i,i<n->(R i).ownBlock≠some b)/\qv.ownBlock≠some b
def FrPK(cb:Nat)(w:World)(sv:Value)(R:Nat->Value)(n pb:Nat)(qv:Value)(w':World)(sv':Value)(R':Nat->Value)(n':Nat)(qv':Value):Prop:=∀b,b≠cb->FreP w sv R n pb qv b->FreP w' sv' R' n' pb qv' b/\w'.heap[b]?=w.heap[b]?
theorem FrPK.trans{j l:Nat}{w p s:World}{sv g i:Value}{R m o:Nat->Value}{n n1 n2:Nat}{qv c d:Value}(h:FrPK j w sv R n l qv p g m n1 c)(k:FrPK j p g m n1 l c s i o n2 d):FrPK j w sv R n l qv s i o n2 d:=λb hb hf=>by
 obtain⟨u,z⟩:=h b hb hf;obtain⟨A,B⟩:=k b hb u;exact⟨A,B.trans z⟩
theorem OwM.kept2{w':World}{B:Nat}{z:Option Nat}(h:OwM w B sv D R)(c:w.grownBy w' z)(d:∀b,sv.ownBlock=some b->z≠some b)(g:∀i,i<D.n->∀b,(R i).ownBlock=some b->z≠some b):OwM w' B sv D R :=
 ⟨AK h.top c d,λi hi=>AK (h.row i hi) c (g i hi),h.apart⟩
def CpE(B0 cb pb:Nat)(A B:MD)(sa sb:Value)(w:World)(n:Nat)(R:Nat->Value)(sv qv:Value)(la lq:List Plc)(D:MD)(ac fl:Int)(w':World):Prop :=
 (∃R' sv' qv',Cps w' B0 cb A B sa sb la lq D R' sv' pb qv' ac fl/\FrPK cb w sv R n pb qv w' sv' R' D.n qv')/\Below B0 w w'
section
variable{w w':World}{B0 cb pb:Nat}{A B:MD}{sa sb:Value}{la lq:List Plc}{D:MD}{R:Nat->Value}{sv qv:Value}{ac fl:Int}(h:Cps w B0 cb A B sa sb la lq D R sv pb qv ac fl)
include h
theorem Cps.lt:cb<w.heap.size:=lbk h.blk
theorem Cps.nep:cb≠pb:=h.mp.block h.blk
theorem Cps.rows(hb:sv.ownBlock=some b):b≠cb/\b≠pb/\qv.ownBlock≠some b:=by
 refine⟨λe=>Ap h.own.top h.blk (by decide) (by rw[hb,e]),λe=>?_,Gq h.own.top h.que (by decide) hb⟩
 rcases h.own.top.2 with⟨rfl,_⟩|⟨g,c,cur,rfl,_,i,_⟩
 ·cases hb
 have d:g=b:=by simpa [Value.ownBlock] using hb
 exact h.mp.block i (d.trans e)
theorem Cps.rowi{i:Nat}(hi:i<D.n)(hb:(R i).ownBlock=some b):b≠cb/\b≠pb/\qv.ownBlock≠some b:=by
 refine⟨λe=>Ap (h.own.row i hi) h.blk (by decide) (by rw[hb,e]),λe=>?_,Gq (h.own.row i hi) h.que (by decide) hb⟩
 rcases (h.own.row i hi).2 with⟨c,_⟩|⟨g,d,cur,c,_,k,_⟩
 ·rw[c]at hb;cases hb
 rw[c]at hb;have j:g=b:=by simpa [Value.ownBlock] using hb
 exact h.mp.block k (j.trans e)
theorem Cps.rowq(hb:qv.ownBlock=some b):b≠cb/\b≠pb/\sv.ownBlock≠some b/\∀i,i<D.n->(R i).ownBlock≠some b:=by
 refine⟨λe=>Ap h.que h.blk (by decide) (by rw[hb,e]),λe=>?_,λe=>(h.rows e).2.2 hb,λi hi e=>(h.rowi hi e).2.2 hb⟩
 rcases h.que.2 with⟨rfl,_⟩|⟨g,c,cur,rfl,_,j,_⟩
 ·cases hb
 have d:g=b:=by simpa [Value.ownBlock] using hb
 exact h.mp.block j (d.trans e)
theorem Cps.below(hb:Below w.heap.size w w'):Cps w' B0 cb A B sa sb la lq D R sv pb qv ac fl/\FrPK cb w sv R D.n pb qv w' sv R D.n qv :=
 ⟨⟨(hb.block cb h.lt).trans h.blk,⟨AK h.own.top (Ab hb none) (λ_ _=>by simp),λi hi=>AK (h.own.row i hi) (Ab hb none) (λ_ _=>by simp),h.own.apart⟩,AK h.que (Ab hb none) (λ_ _=>by simp),h.mp.kept (hb.block pb h.mp.lt),h.low,h.lowp⟩,
  λb _ hf=>⟨⟨Nat.lt_of_lt_of_le hf.1 hb.size,hf.2⟩,hb.block b hf.1⟩⟩
theorem Cps.map{x:Plc}(d:MpP w' pb (la++[x]))(c:w.grownBy w' (some pb)):Cps w' B0 cb A B sa sb (la++[x]) lq D R sv pb qv ac fl/\FrPK cb w sv R D.n pb qv w' sv R D.n qv :=
 ⟨⟨(c.block cb h.lt (λe=>h.nep (Option.some.inj e))).trans h.blk,h.own.kept2 c (λb hb e=>(h.rows hb).2.1 (Option.some.inj e).symm) (λi hi b hb e=>(h.rowi hi hb).2.1 (Option.some.inj e).symm),AK h.que c (λb hb e=>(h.rowq hb).2.1 (Option.some.inj e).symm),d,h.low,h.lowp⟩,
  λb _ hf=>⟨⟨Nat.lt_of_lt_of_le hf.1 c.size,hf.2⟩,c.block b hf.1 (λe=>hf.2.1 (Option.some.inj e))⟩⟩
theorem Cps.queue{x:Plc}{d:Value}(o:w'.ownsRow B0 74 3 d (lq.length+1) (plL lq++plC x))(k:w.grownBy w' qv.ownBlock)(l:∀c,d.ownBlock=some c->qv.ownBlock=some c\/w.heap.size<=c):
  Cps (w'.setCell (Ad cb 13) d) B0 cb A B sa sb la (lq++[x]) D R sv pb d ac fl/\FrPK cb w sv R D.n pb qv (w'.setCell (Ad cb 13) d) sv R D.n d:=by
 have g:w'.heap[cb]?=some (.cells (ccs A B sa sb D sv pb qv ac fl) 70 (0,0)):=(k.block cb h.lt (λe=>(h.rowq e.symm).1 rfl)).trans h.blk;have j:OwM w' B0 sv D R:=h.own.kept2 k (λb hb e=>(h.rows hb).2.2 e) (λi hi b hb e=>(h.rowi hi hb).2.2 e);refine⟨⟨Ccs.set13 g d,j.other (p:=(Ad cb 13)) (Ap j.top g (by decide)) (λi hi=>Ap (j.row i hi) g (by decide)) _,?_,?_,h.low,h.lowp⟩,λb hb hf=>⟨⟨?_,hf.2.1,hf.2.2.1,hf.2.2.2.1,λe=>?_⟩,?_⟩⟩
 ·rw[List.length_append,Ot];exact BE o (p:=(Ad cb 13)) (Ap o g (by decide)) _
 ·exact h.mp.kept ((Ay (show pb≠cb from h.nep.symm)).trans (k.block pb h.mp.lt (λe=>(h.rowq e.symm).2.1 rfl)))
 ·rw[nblk_setCell];exact Nat.lt_of_lt_of_le hf.1 k.size
 ·rcases l b e with m|m
  ·exact hf.2.2.2.2 m
  have:=hf.1;omega
 rw[Ay hb];exact k.block b hf.1 (λe=>hf.2.2.2.2 e.symm)
theorem Cps.state{o:Obj}{f:ByteArray}{d:Value}(E:w'.ownsRow B0 63 2 d (D.n+1) (cat (st2 D R) D.n++[.string f,.slice none 0 0]))(l:(w.alloc o).grownBy w' sv.ownBlock)(m:∀c,d.ownBlock=some c->sv.ownBlock=some c\/w.heap.size<=c):
  Cps (w'.setCell (Ad cb 11) d) B0 cb A B sa sb la lq (D.state f) (λi=>if i=D.n then .slice none 0 0 else R i) d pb qv ac fl/\FrPK cb w sv R D.n pb qv (w'.setCell (Ad cb 11) d) d (λi=>if i=D.n then .slice none 0 0 else R i) (D.state f).n qv:=by
 have j:∀b,b<w.heap.size->sv.ownBlock≠some b->w'.heap[b]?=w.heap[b]?:=λb hb C=>(l.block b (by simp;omega) (λe=>C e.symm)).trans (blk_alloc_lt _ _ _ hb);have g:w'.heap[cb]?=some (.cells (ccs A B sa sb D sv pb qv ac fl) 70 (0,0)):=(j cb h.lt (λe=>(h.rows e).1 rfl)).trans h.blk;have k:=h.own.state E l;refine⟨⟨Ccs.set11 g d,k.other (p:=(Ad cb 11)) (Ap k.top g (by decide)) (λi hi=>Ap (k.row i hi) g (by decide)) _,?_,?_,h.low,h.lowp⟩,λb hb hf=>⟨⟨?_,hf.2.1,λe=>?_,λi hi=>?_,hf.2.2.2.2⟩,?_⟩⟩
 ·have u:w'.ownsRow B0 74 3 qv lq.length (plL lq):=AK (World.ownsRow.alloc h.que o) l (λb hb e=>(h.rowq hb).2.2.1 e);exact BE u (p:=(Ad cb 11)) (Ap u g (by decide)) _
 ·exact h.mp.kept ((Ay (show pb≠cb from h.nep.symm)).trans (j pb h.mp.lt (λe=>(h.rows e).2.1 rfl)))
 ·rw[nblk_setCell];exact Nat.lt_of_lt_of_le hf.1 (Nat.le_trans (by simp) l.size)
 ·rcases m b e with s|s
  ·exact hf.2.2.1 s
  have:=hf.1;omega
 ·dsimp only
  split
  ·simp[Value.ownBlock]
  have z:i<D.n+1:=hi;exact hf.2.2.2.1 i (by omega)
 rw[Ay hb];exact j b hf.1 hf.2.2.1
theorem Cps.arc{q g cap:Nat}{v':Value}{o:Obj}{a b t:Int}{x:ByteArray}(k:q<D.n)(s:sv=.slice (some (Ad g 0)) D.n cap)(H:w'.ownsRow B0 59 4 v' (D.na q+1) (cat (arc4 D q) (D.na q)++[.int .i64 a,.int .i64 b,.string x,.int .i64 t]))(z:(w.alloc o).grownBy w' (R q).ownBlock)
  (l:∀c,v'.ownBlock=some c->(R q).ownBlock=some c\/w.heap.size<=c) :
  Cps (w'.setCell (Ad g (q*2+1)) v') B0 cb A B sa sb la lq (D.arc q a b x t) (λi=>if i=q then v' else R i) sv pb qv ac fl/\FrPK cb w sv R D.n pb qv (w'.setCell (Ad g (q*2+1)) v') sv (λi=>if i=q then v' else R i) (D.arc q a b x t).n qv:=by
 have d:∀b,b<w.heap.size->(R q).ownBlock≠some b->w'.heap[b]?=w.heap[b]?:=λb hb G=>(z.block b (by simp;omega) (λe=>G e.symm)).trans (blk_alloc_lt _ _ _ hb);have m:sv.ownBlock=some g:=by rw[s];rfl
 have j:=h.rows m;have u:=s;subst u;have C:=h.own.arc (a:=a) (b:=b) (x:=x) (t:=t) k H z l;refine⟨⟨(Ay (show cb≠g from λe=>j.1 e.symm)).trans ((d cb h.lt (λe=>(h.rowi k e).1 rfl)).trans h.blk),C,?_,?_,h.low,h.lowp⟩,λb hb hf=>⟨⟨?_,hf.2.1,hf.2.2.1,λi hi=>?_,hf.2.2.2.2⟩,?_⟩⟩
 ·have E:w'.ownsRow B0 74 3 qv lq.length (plL lq):=AK (World.ownsRow.alloc h.que o) z (λb hb e=>(h.rowq hb).2.2.2 q k e);exact BE E (p:=(Ad g (q*2+1))) j.2.2 _
 ·exact h.mp.kept ((Ay (show pb≠g from λe=>j.2.1 e.symm)).trans (d pb h.mp.lt (λe=>(h.rowi k e).2.1 rfl)))
 ·rw[nblk_setCell];exact Nat.lt_of_lt_of_le hf.1 (Nat.le_trans (by simp) z.size)
 ·dsimp only
  split
  ·intro e
   rcases l b e with F|F
   ·exact hf.2.2.2.1 q k F
   have:=hf.1;omega
  exact hf.2.2.2.1 i hi
 rw[Ay (show b≠g from λe=>hf.2.2.1 (by rw[e];exact m))];exact d b hf.1 (hf.2.2.2.1 q k)
theorem Cps.setFin{q g cap:Nat}{s:ByteArray}(k:q<D.n)(i:sv=.slice (some (Ad g 0)) D.n cap):
  Cps (w.setCell (Ad g (q*2)) (.string s)) B0 cb A B sa sb la lq (D.setFin q s) R sv pb qv ac fl/\FrPK cb w sv R D.n pb qv (w.setCell (Ad g (q*2)) (.string s)) sv R (D.setFin q s).n qv:=by
 have d:sv.ownBlock=some g:=by rw[i];rfl
 have c:=h.rows d;have j:=i;subst j;exact⟨⟨(Ay (show cb≠g from λe=>c.1 e.symm)).trans h.blk,h.own.setFin k s,BE h.que (p:=(Ad g (q*2))) c.2.2 _,h.mp.kept (Ay (show pb≠g from λe=>c.2.1 e.symm)),h.low,h.lowp⟩,
  λb hb hf=>⟨⟨by rw[nblk_setCell];exact hf.1,hf.2⟩,Ay (show b≠g from λe=>hf.2.2.1 (by rw[e];exact d))⟩⟩
theorem Cps.count(a:Int):Cps (w.setCell (Ad cb 14) (.int .i64 a)) B0 cb A B sa sb la lq D R sv pb qv a fl/\FrPK cb w sv R D.n pb qv (w.setCell (Ad cb 14) (.int .i64 a)) sv R D.n qv :=
 ⟨⟨Ccs.set14 h.blk a,h.own.other (p:=(Ad cb 14)) (Ap h.own.top h.blk (by decide)) (λi hi=>Ap (h.own.row i hi) h.blk (by decide)) _,BE h.que (p:=(Ad cb 14)) (Ap h.que h.blk (by decide)) _,h.mp.kept (Ay (show pb≠cb from h.nep.symm)),h.low,h.lowp⟩,
  λb hb hf=>⟨⟨by rw[nblk_setCell];exact hf.1,hf.2⟩,Ay hb⟩⟩
theorem Cps.err(e:Int):Cps (w.setCell (Ad cb 15) (.int .i64 e)) B0 cb A B sa sb la lq D R sv pb qv ac e/\FrPK cb w sv R D.n pb qv (w.setCell (Ad cb 15) (.int .i64 e)) sv R D.n qv :=
 ⟨⟨Ccs.set15 h.blk e,h.own.other (p:=(Ad cb 15)) (Ap h.own.top h.blk (by decide)) (λi hi=>Ap (h.own.row i hi) h.blk (by decide)) _,BE h.que (p:=(Ad cb 15)) (Ap h.que h.blk (by decide)) _,h.mp.kept (Ay (show pb≠cb from h.nep.symm)),h.low,h.lowp⟩,
  λb hb hf=>⟨⟨by rw[nblk_setCell];exact hf.1,hf.2⟩,Ay hb⟩⟩
end
def CtE(cb:Nat)(z:ByteArray × Nat)(w:World)(r:Ending)(w':World):Prop:=r=.returned (.string z.1)/\∃w1,Below w.heap.size w w1/\w'=if z.2=0 then w1 else w1.setCell (Ad cb 15) (.int .i64 (z.2:Int))
theorem Jn{k:Int}(w:World)(G:w.cell? (Ad c 0)=some (.int .i64 k)){u:Value}(C:w.cell? (Ad c 15)=some u)(hf:w.frozen? (Ad c 15)=false)(g:c<w.heap.size)(v x:ByteArray)(o:v.size<=9223372036854775807)(p:x.size<=9223372036854775807)(m:Tab w):
  Calls prog 46 #[.pointer (some (Ad c 0)),.string v,.string x] w (CtE c (Ae k v x) w):=by
 have j:=qh<|Pt k v x w o p m;clear o p m;obtain⟨z,s⟩:=exq<|Ae k v x;rw[<-s]at j ⊢;clear s;obtain⟨H,i⟩:=z
 go_enter func46,ntmps46
 go_wp2_with fail
 refine j.o.mono ?_;rintro r h⟨rfl,hb⟩;have d:h.cell? (Ad c 15)=w.cell? (Ad c 15):=hb.cell g;have B:h.frozen? (Ad c 15)=false:=(hb.frozen g).trans hf;rw[<-d]at C;replace hb:=qh hb;clear d;by_cases l:i=0
 ·subst l;go_wp2;go_ret;exact⟨rfl,h,hb.o,rfl⟩
 have D:¬((i:Int)=0):=by omega
 have E:decide ((i:Int)=0)=false:=by simp;omega
 have F:((i:Int)==0)=false:=by simp;omega
 have A:=qh l;go_wp2;go_ret;exact⟨rfl,h,hb.o,(ifn A.o).symm⟩
theorem Ul:(prog.info? 74).map (λi=>(i.zero,i.size,i.bytes))=some (some (.agg #[.int .i64 0,.int .i64 0,.bool false]),3,24):=by kernel_rfl
theorem PY{x:Plc}:∀u ∈ plC x,u.oneCell'=true:=by intro u c;simp[plC]at c;rcases c with rfl|rfl|rfl<;>rfl
def erN(n:Nat)(fl:Int):Int:=if 3000<n then 2 else fl
theorem Hm(h:¬3000<n):erN n fl=fl:=ifn h
theorem JF(h:3000<n):erN n fl=2:=ifp h
theorem My{L z pb:Nat}{A B:MD}{sa sb:Value}{l:List Plc}{qv:Value}{ac:Int}(w:World)(h:Cps w L z A B sa sb l l D R sv pb qv ac fl)(hl:D.n=l.length)(hB:L<=w.heap.size)(hn:l.length<=100000){x:Plc}(hx:plOk x):
  Calls prog 47 #[.pointer (some (Ad z 0)),plV x] w (λr w'=>r=.returned (.int .i64 (posP l x:Nat))/\CpE L z pb A B sa sb w D.n R sv qv (numP (l,D) x).1 (numP (l,D) x).1 (numP (l,D) x).2 ac (erN (numP (l,D) x).2.n fl) w'):=by
 obtain⟨p,q,f⟩:=x;unfold plV
 dsimp only
 obtain⟨wb,b7⟩:=exq<|w.alloc (.cells #[.int .i64 (p:Int),.int .i64 (q:Int),.bool f] 74);obtain⟨wd,b8⟩:=exq<|wb.drew;obtain⟨H,hH⟩:=exq<|w.heap.size;have j5:Below w.heap.size w wd:=by rw[b8,b7];exact((Below.refl _ w).alloc nlr _).drew
 have b5:wd.heap[H]?=some (.cells #[.int .i64 (p:Int),.int .i64 (q:Int),.bool f] 74 (0,0)):=by rw[b8,b7,hH];exact han w _
 have l3:wd.heap.size=H+1:=by rw[b8,b7,hH];show (w.alloc _).heap.size=_;simp
 obtain⟨s,a1⟩:=h.below j5;have b4:Below L w wd:=j5.mono hB;have T:=s.mp.look hx;have d9:FreP wd sv R D.n pb qv H:=⟨by omega,λe=>by have:=h.mp.lt;omega,λe=>by have:=(World.ownsRow.lt h.own.top H e).2;omega,λi hi e=>by have:=(World.ownsRow.lt (h.own.row i hi) H e).2;omega,λe=>by have:=(World.ownsRow.lt h.que H e).2;omega⟩;have P:H≠z:=by have:=h.lt;omega
 unfold plV at T
 dsimp only at T
 have F:wd.cell? (Ad z 12)=some (.map (some pb))/\wd.cell? (Ad H 0)=some (.int .i64 (p:Int))/\wd.cell? (Ad H 1)=some (.int .i64 (q:Int))/\wd.cell? (Ad H 2)=some (.bool f)/\(Instr.lookup 67 (.map (some pb)) (.agg #[.int .i64 (p:Int),.int .i64 (q:Int),.bool f]) true).run prog wd=.ok (.tuple #[.int .i64 (if (p,q,f) ∈ l then (posP l (p,q,f):Int) else 0),.bool (decide ((p,q,f) ∈ l))]) wd :=
  ⟨Ccs.c12 s.blk,cellOf b5 0 rfl,cellOf b5 1 rfl,cellOf b5 2 rfl,T⟩
 clear T;replace hx:=qh hx;replace hl:=qh hl;replace b5:=qh b5;replace h:=qh h;replace s:=qh s;replace a1:=qh a1;replace b4:=qh b4;clear j5;replace d9:=qh d9;have m4:=qh hH;replace l3:=qh l3;replace P:=qh P;obtain⟨lk,f7⟩:∃lk:Int,lk=(if (p,q,f) ∈ l then (posP l (p,q,f):Int) else 0):=⟨_,rfl⟩
 obtain⟨mb,e3⟩:=exq<|decide ((p,q,f) ∈ l);rw[<-f7,<-e3]at F;replace f7:=qh f7;replace e3:=qh e3;obtain⟨S2,C⟩:=exq<|numP (l,D) (p,q,f);obtain⟨tp,b6⟩:=exq<|posP l (p,q,f);rw[<-C,<-b6]
 go_enter func47,ntmps47
 go_wp2_with fail
 refine AB (λwk=>wk.cell? (Ad z 12)=some (.map (some pb))/\wk.cell? (Ad H 0)=some (.int .i64 (p:Int))/\wk.cell? (Ad H 1)=some (.int .i64 (q:Int))/\wk.cell? (Ad H 2)=some (.bool f)/\(Instr.lookup 67 (.map (some pb)) (.agg #[.int .i64 (p:Int),.int .i64 (q:Int),.bool f]) true).run prog wk=.ok (.tuple #[.int .i64 lk,.bool mb]) wk) 10 (by kernel_rfl) ?_;rw[<-b7,<-b8,<-hH];replace b8:=qh b8;replace b7:=qh b7;clear hH;refine Aa.tm 0 F ?_;refine Aa.tm 1 F ?_;refine Aa.tm 2 F ?_;refine Aa.tm 3 F ?_;refine Aa.tm 4 F ?_;refine Aa.tm 5 F ?_;refine Aa.tm 6 F ?_;refine Aa.tm 7 F ?_;refine Aa.tm 8 F ?_
 try simp only[Act.put,tryL]
 refine Aa.on 9 λK Y=>?_;go_simp;refine Y.out _ _ (.inr F) ?_;clear Y K
 try simp only[Act.put,tryL]
 refine Aa.on 10 λK Y=>?_;go_simp;refine Y.out _ _ (.inl rfl) (Aa.dn ?_);clear Y K F;cases mb
 ·have hm:(p,q,f) ∉ l:=of_decide_eq_false e3.o.symm;have e1:numP (l,D) (p,q,f)=(l++[(p,q,f)],D.state ⟨#[]⟩):=ifn hm;have e2:posP l (p,q,f)=D.n:=(Gi hm).trans hl.o.symm;rw[e1]at C;rw[e2]at b6;subst C b6;clear e1 e2;have m8:D.n<=100000:=by have:=hl.o;omega
  obtain⟨i0,hi,l4,l5,l6⟩:=CY Ul;obtain⟨i1,l2,i3,i4,i5⟩:=CY FQ;obtain⟨N,b1⟩:=exq<|wd.drew;obtain⟨d2,d4⟩:=s.o.below (w':=N) (by rw[b1];exact(Below.refl _ wd).drew);have j3:Below L wd N:=by rw[b1];exact(Below.refl _ wd).drew
  obtain⟨h0,G⟩:=d4 H P.o d9.o;have G:=G.trans b5.o;obtain⟨Dm,i2,k6,k7⟩:=d2.mp;obtain⟨kl,j7⟩:=keyP hx.o;obtain⟨w3,e7,e6,j6⟩:=i2.update (val:=.int .i64 (D.n:Int)) lawP underlying67 (by unfold maxLen;omega) j7 (VQ (show D.n<=1000000 by omega));have h8:MpP w3 pb (l++[(p,q,f)]):=MpP.put k6 k7 hm j7 (by have h9:=e6;rw[show ((D.n:Nat):Int)=((l.length:Nat):Int) by rw[hl.o]]at h9;exact h9);unfold plV at e7
  dsimp only at e7
  have a5:N.cell? (Ad z 12)=some (.map (some pb))/\N.cell? (Ad H 0)=some (.int .i64 (p:Int))/\N.cell? (Ad H 1)=some (.int .i64 (q:Int))/\N.cell? (Ad H 2)=some (.bool f):=⟨Ccs.c12 d2.blk,cellOf G 0 rfl,cellOf G 1 rfl,cellOf G 2 rfl⟩;obtain⟨l1,d5⟩:=d2.map h8 j6;have k9:Below L N w3:=(Below.refl L N).grown j6 (Nat.le_trans hB (Nat.le_trans b4.o.size j3.size)) (λk hk=>by cases hk;exact d2.lowp);obtain⟨h2,a9⟩:=d5 H P.o h0;have a9:=a9.trans G;obtain⟨m,b2⟩:=exq<|w3.drew;obtain⟨f2,d6⟩:=l1.below (w':=m) (by rw[b2];exact(Below.refl _ w3).drew);have l0:Below L w3 m:=by rw[b2];exact(Below.refl _ w3).drew
  obtain⟨h6,I⟩:=d6 H P.o h2;have I:=I.trans a9;have k0:=qh<|((a1.o.trans d4).trans d5).trans d6;have i8:=qh<|((b4.o.trans j3).trans k9).trans l0;have c11:=Ccs.c11 s.o.blk;obtain⟨ta,tc,U,_,_⟩:=Ax s.o.own.top;rw[U]at c11;obtain⟨qa,qc,a2,_,_⟩:=Ax f2.que;have C:m.cell? (Ad z 13)=some (.slice qa l.length qc)/\m.cell? (Ad H 0)=some (.int .i64 (p:Int))/\m.cell? (Ad H 1)=some (.int .i64 (q:Int))/\m.cell? (Ad H 2)=some (.bool f):=⟨by rw[Ccs.c13 f2.blk,a2],cellOf I 0 rfl,cellOf I 1 rfl,cellOf I 2 rfl⟩;have X:=qh U;clear U;replace a2:=qh a2;have j9:=qh f2;clear f2;have g5:=qh h6;clear h6;have g1:=qh I;clear I;have HI:=qh hi;have l7:=qh l4;have l8:=qh l5;have l9:=qh l6;have k4:=qh l2;have g7:=qh i3;have g8:=qh i4;have g9:=qh i5;have HM:=qh hm;clear hi l4 l5 l6 l2 i3 i4 i5 hm d2 d4 j3 h0 G i2 k6 k7 j7 e6 j6 h8 l1 d5 k9 h2 a9 d6 l0
  go_wp2_with fail
  refine AB (λwk=>wk.cell? (Ad z 12)=some (.map (some pb))/\wk.cell? (Ad H 0)=some (.int .i64 (p:Int))/\wk.cell? (Ad H 1)=some (.int .i64 (q:Int))/\wk.cell? (Ad H 2)=some (.bool f)) 6 (by kernel_rfl) ?_;rw[<-b1];clear b1;refine Aa.tm 0 a5 ?_;refine Aa.tm 1 a5 ?_;refine Aa.tm 2 a5 ?_;refine Aa.tm 3 a5 ?_;refine Aa.tm 4 a5 ?_;refine Aa.tm 5 a5 ?_
  try simp only[Act.put,tryL]
  refine Aa.on 6 λK Y=>?_;go_simp;refine Y.out _ _ (.inl rfl) (Aa.dn ?_);clear Y K a5 e7 c11
  go_wp2_with fail
  refine AB (λwk=>wk.cell? (Ad z 13)=some (.slice qa l.length qc)/\wk.cell? (Ad H 0)=some (.int .i64 (p:Int))/\wk.cell? (Ad H 1)=some (.int .i64 (q:Int))/\wk.cell? (Ad H 2)=some (.bool f)) 10 (by kernel_rfl) ?_;rw[<-b2];clear b2;refine Aa.tm 0 C ?_;refine Aa.tm 1 C ?_;refine Aa.tm 2 C ?_;refine Aa.tm 3 C ?_;refine Aa.tm 4 C ?_;refine Aa.tm 5 C ?_
  try simp only[Act.put,tryL]
  refine Aa.on 6 λK Y=>?_;go_simp;obtain⟨Hy,j1⟩:=exq<|m.heap.size;obtain⟨W,f9⟩:=exq<|m.alloc (.cells #[.int .i64 (p:Int),.int .i64 (q:Int),.bool f] 74);have f1:Below m.heap.size m W:=by rw[f9];exact(Below.refl _ m).alloc nlr _
  have j8:W.heap[Hy]?=some (.cells #[.int .i64 (p:Int),.int .i64 (q:Int),.bool f] 74 (0,0)):=by rw[f9,j1];exact han m _
  obtain⟨f3,d7⟩:=j9.o.below f1;obtain⟨h7,O⟩:=d7 H P.o g5.o;have O:=O.trans g1.o;have j2:L<=m.heap.size:=Nat.le_trans hB i8.o.size;have d1:W.cell? (Ad z 13)=some (.slice qa l.length qc)/\W.cell? (Ad H 0)=some (.int .i64 (p:Int))/\W.cell? (Ad H 1)=some (.int .i64 (q:Int))/\W.cell? (Ad H 2)=some (.bool f):=⟨by rw[Ccs.c13 f3.blk,a2.o],cellOf O 0 rfl,cellOf O 1 rfl,cellOf O 2 rfl⟩;have a4:W.ownsRow L 74 3 (.slice qa l.length qc) l.length (plL l):=by rw[<-a2.o];exact f3.que
  have j0:L<=W.heap.size:=Nat.le_trans j2 f1.size;have g4:=qh<|k0.o.trans d7;have g0:=qh<|i8.o.trans (f1.mono j2);have b3:=qh f3;have d0:=qh h7;rw[<-f9,<-j1];clear j1 f9;replace j8:=qh j8;clear f3 d7 h7 O f1 j2;refine Y.out _ _ (.inr d1) ?_;clear Y K C k0 i8 j9 g5 g1
  try simp only[Act.put,tryL]
  refine Aa.on 7 λK Y=>?_;refine wp_append_lies _ (.tmp 34) (.tmp 36) 68 rfl L 74 i0 (.agg #[.int .i64 0,.int .i64 0,.bool false]) 3 24 underlying68 HI.o l7.o l8.o l9.o rfl (by omega) (.slice qa l.length qc) l.length _ (by simp[Act.eval]) a4 (Ad Hy 0) 1 1 (plC (p,q,f)) (by simp[Act.eval]) rfl (CF (cs:=#[.int .i64 (p:Int),.int .i64 (q:Int),.bool f]) j8.o) PY (by omega) (by unfold maxLen;omega) (by omega) j0 _ rfl ?_;intro go cq we g d Z e0;have u:W.grownBy we qv.ownBlock:=by rw[a2.o];exact d
  have E:∀c,(Value.slice (some (Ad go 0)) (l.length+1) cq).ownBlock=some c->qv.ownBlock=some c\/W.heap.size<=c:=λc hc=>by
   have e:go=c:=by simpa [Value.ownBlock] using hc
   subst e
   rcases Z with h1|h1
   ·exact .inl (by rw[a2.o];exact h1)
   exact .inr (by omega)
  have d3:we.heap[z]?=some (.cells (ccs A B sa sb D sv pb qv ac fl) 70 (0,0)):=(u.block z b3.o.lt (λe=>(b3.o.rowq e.symm).1 rfl)).trans b3.o.blk;have b0:we.heap[H]?=W.heap[H]?:=u.block H d0.o.1 (λe=>d0.o.2.2.2.2 e.symm);have e9:we.cell? (Ad z 13)=some (.slice qa l.length qc)/\we.cell? (Ad H 0)=some (.int .i64 (p:Int))/\we.cell? (Ad H 1)=some (.int .i64 (q:Int))/\we.cell? (Ad H 2)=some (.bool f):=by
   refine⟨by rw[Ccs.c13 d3,a2.o],?_,?_,?_⟩
   ·exact(by simp only[World.cell?,b0]:we.cell? (Ad H 0)=W.cell? (Ad H 0)).trans d1.2.1
   ·exact(by simp only[World.cell?,b0]:we.cell? (Ad H 1)=W.cell? (Ad H 1)).trans d1.2.2.1
   exact(by simp only[World.cell?,b0]:we.cell? (Ad H 2)=W.cell? (Ad H 2)).trans d1.2.2.2
  have m2:=Ccs.fz d3 13;obtain⟨j,d8⟩:=b3.o.queue (x:=(p,q,f)) g u E;have j4:Below L W (we.setCell (Ad z 13) (.slice (some (Ad go 0)) (l.length+1) cq)):=((Below.refl L W).grown u j0 (λk hk=>(World.ownsRow.lt b3.o.que k hk).1)).setCell (p:=(Ad z 13)) b3.o.low _;obtain⟨w6,f8⟩:=exq<|we.setCell ⟨z,13,none⟩ (.slice (some ⟨go,0,none⟩) (l.length+1) cq);rw[<-f8]at j d8 j4;have g3:=qh<|g4.o.trans d8;clear d8;have i6:=qh<|g0.o.trans j4;clear j4;replace j:=qh j;clear g d u Z E e0 d3 b0 a4 d1 j0 g4 g0 d0;refine Y.out _ _ (.inr e9) ?_;clear Y K
  try simp only[Act.put,tryL]
  refine Aa.tm 8 e9 ?_;refine Aa.tm 9 e9 ?_
  try simp only[Act.put,tryL]
  refine Aa.on 10 λK Y=>?_;go_simp;rw[<-f8];replace f8:=qh f8;refine Y.out _ _ (.inl rfl) (Aa.dn ?_);clear Y K e9 m2;have c11:=Ccs.c11 j.o.blk;rw[X.o]at c11;have k5:L<=w6.heap.size:=Nat.le_trans hB i6.o.size;have f0:∀o wf,(w6.alloc o).grownBy wf sv.ownBlock->wf.heap[z]?=some (.cells (ccs A B sa sb D sv pb (.slice (some (Ad go 0)) (l.length+1) cq) ac fl) 70 (0,0)):=λo wf hg =>
   (hg.block z (by have:=j.o.lt;simp;omega) (λe=>(j.o.rows e.symm).1 rfl)).trans ((blk_alloc_lt _ _ _ j.o.lt).trans j.o.blk)
  replace f0:=qh f0;have a4:w6.ownsRow L 63 2 (.slice ta D.n tc) D.n (cat (st2 D R) D.n):=by rw[<-X.o];exact j.o.own.top
  have g6:=qh a4;clear a4;by_cases h3:3000<D.n+1
  ·have i9:(3000:Int)<(D.n:Int)+1:=by omega
   have m7:decide ((3000:Int)<(D.n:Int)+1)=true:=by simp;omega
   have E3:=qh<|show erN (D.state ⟨#[]⟩).n fl=2 from JF h3;clear h3
   go_wp2_with (at_builtin;refine wpList_append_lies _ rfl (.tmp 45) (.tmp 47) 23 rfl L 63 i1 (.agg #[.string ⟨#[]⟩,.slice none 0 0]) 2 40 underlying23 k4.o g7.o g8.o g9.o rfl (by omega) (.slice ta D.n tc) D.n _ (by first|rfl|simp[Act.eval,Act.put]) (World.ownsRow.alloc g6.o _) (Ad w6.heap.size 0) 1 1 [.string ⟨#[]⟩,.slice none 0 0] (by first|rfl|simp[Act.eval,Act.put]) rfl (CF (cs:=#[.string ⟨#[]⟩,.slice none 0 0]) (han w6 _)) IQ (by omega) (by unfold maxLen;omega) (by omega) (by simp;omega) _ rfl ?_;intro g2 cp wf g d Z e0;have S:=(by rw[X.o];exact d:(w6.alloc _).grownBy wf sv.ownBlock);have Q:=f0.o _ wf S;have e4:=Ccs.c11 Q;have f4:=Ccs.fz Q 11;have e5:=(Ccs.c15 (Ccs.set11 Q (.slice (some (Ad g2 0)) (D.n+1) cp)));have f5:=Ccs.fz (Ccs.set11 Q (.slice (some (Ad g2 0)) (D.n+1) cp)) 15)
   have E:∀c,(Value.slice (some (Ad g2 0)) (D.n+1) cp).ownBlock=some c->sv.ownBlock=some c\/w6.heap.size<=c:=λc hc=>by
    have e:g2=c:=by simpa [Value.ownBlock] using hc
    subst e
    rcases Z with h1|h1
    ·exact .inl (by rw[X.o];exact h1)
    right;simp at h1;omega
   obtain⟨a7,J⟩:=j.o.state g S E;have a6:Below L w6 (wf.setCell (Ad z 11) (.slice (some (Ad g2 0)) (D.n+1) cp)):=(((Below.refl L w6).alloc k5 (.cells #[.string ⟨#[]⟩,.slice none 0 0] 63)).grown S (by simp;omega) (λk hk=>(World.ownsRow.lt j.o.own.top k hk).1)).setCell (p:=(Ad z 11)) j.o.low _;obtain⟨w7,a8⟩:=exq<|wf.setCell ⟨z,11,none⟩ (.slice (some ⟨g2,0,none⟩) (D.n+1) cp);rw[<-a8]at a7 J a6;have b9:=qh<|g3.o.trans J;clear J;have i7:=qh<|i6.o.trans a6;clear a6;have e8:=qh a7;clear a7;rw[<-a8];clear e5 f5 a8 g d S Z E e0 Q e4 f4 c11;go_ret;obtain⟨h4,h5⟩:=e8.o.err 2;exact⟨rfl,⟨_,_,_,by rw[E3.o];exact h4,b9.o.trans h5⟩,i7.o.setCell (p:=(Ad z 15)) e8.o.low _⟩
  have i9:¬((3000:Int)<(D.n:Int)+1):=by omega
  have m3:decide ((3000:Int)<(D.n:Int)+1)=false:=by simp;omega
  have E3:=qh<|show erN (D.state ⟨#[]⟩).n fl=fl from Hm h3;clear h3
  go_wp2_with (at_builtin;refine wpList_append_lies _ rfl (.tmp 45) (.tmp 47) 23 rfl L 63 i1 (.agg #[.string ⟨#[]⟩,.slice none 0 0]) 2 40 underlying23 k4.o g7.o g8.o g9.o rfl (by omega) (.slice ta D.n tc) D.n _ (by first|rfl|simp[Act.eval,Act.put]) (World.ownsRow.alloc g6.o _) (Ad w6.heap.size 0) 1 1 [.string ⟨#[]⟩,.slice none 0 0] (by first|rfl|simp[Act.eval,Act.put]) rfl (CF (cs:=#[.string ⟨#[]⟩,.slice none 0 0]) (han w6 _)) IQ (by omega) (by unfold maxLen;omega) (by omega) (by simp;omega) _ rfl ?_;intro g2 cp wf g d Z e0;have S:=(by rw[X.o];exact d:(w6.alloc _).grownBy wf sv.ownBlock);have Q:=f0.o _ wf S;have e4:=Ccs.c11 Q;have f4:=Ccs.fz Q 11)
  have E:∀c,(Value.slice (some (Ad g2 0)) (D.n+1) cp).ownBlock=some c->sv.ownBlock=some c\/w6.heap.size<=c:=λc hc=>by
   have e:g2=c:=by simpa [Value.ownBlock] using hc
   subst e
   rcases Z with h1|h1
   ·exact .inl (by rw[X.o];exact h1)
   right;simp at h1;omega
  obtain⟨a7,J⟩:=j.o.state g S E;have a6:Below L w6 (wf.setCell (Ad z 11) (.slice (some (Ad g2 0)) (D.n+1) cp)):=(((Below.refl L w6).alloc k5 (.cells #[.string ⟨#[]⟩,.slice none 0 0] 63)).grown S (by simp;omega) (λk hk=>(World.ownsRow.lt j.o.own.top k hk).1)).setCell (p:=(Ad z 11)) j.o.low _;obtain⟨w7,a8⟩:=exq<|wf.setCell ⟨z,11,none⟩ (.slice (some ⟨g2,0,none⟩) (D.n+1) cp);rw[<-a8]at a7 J a6;have b9:=qh<|g3.o.trans J;clear J;have i7:=qh<|i6.o.trans a6;clear a6;have e8:=qh a7;clear a7;rw[<-a8];clear a8 g d S Z E e0 Q e4 f4 c11;go_ret;exact⟨rfl,⟨_,_,_,by rw[E3.o];exact e8.o,b9.o⟩,i7.o⟩
 have hm:(p,q,f) ∈ l:=of_decide_eq_true e3.o.symm;have e1:numP (l,D) (p,q,f)=(l,D):=ifp hm;have e2:lk=(posP l (p,q,f):Int):=f7.o.trans<|ifp hm;rw[e1]at C;rw[<-b6]at e2;subst C;have c11:=Ccs.c11 s.o.blk;have c15:=Ccs.c15 s.o.blk;have m5:=Ccs.fz s.o.blk 15;obtain⟨ta,tc,U,_,_⟩:=Ax s.o.own.top;rw[U]at c11;by_cases h3:3000<D.n
 ·have i9:(3000:Int)<(D.n:Int):=by omega
  have E3:=qh<|JF (fl:=fl) h3;clear h3;have E2:=qh e2;clear e2 hm e1 b6;have X:=qh U;clear U;go_wp2;go_ret;obtain⟨h4,h5⟩:=s.o.err 2;exact⟨by first|rfl|(rw[E2.o];rfl)|(rw[<-E2.o];rfl),⟨_,_,_,by rw[E3.o];exact h4,a1.o.trans h5⟩,b4.o.setCell (p:=(Ad z 15)) s.o.low _⟩
 have i9:¬((3000:Int)<(D.n:Int)):=by omega
 have m3:decide ((3000:Int)<(D.n:Int))=false:=by simp;omega
 have E3:=qh<|Hm (fl:=fl) h3;clear h3;have E2:=qh e2;clear e2 hm e1 b6;have X:=qh U;clear U;go_wp2;go_ret;exact⟨by first|rfl|(rw[E2.o];rfl)|(rw[<-E2.o];rfl),⟨_,_,_,by rw[E3.o];exact s.o,a1.o⟩,b4.o⟩
end
section
open Go.RowKit Go.Deep
variable{D:MD}{i nf:Nat}{v:Value}
def anyA(D:MD)(i:Nat)(sel:Int->Int->Bool):Bool:=(List.range (D.na i)).any λd=>sel (D.ain i d) (D.aout i d)
def Ja{sel:Int->Int->Bool}:anyA D i sel=true↔∃d,d<D.na i/\sel (D.ain i d) (D.aout i d)=true:=by simp[anyA]
theorem LV{sel:Int->Int->Bool}(h:∀d,d<D.na i->sel (D.ain i d) (D.aout i d)=false):anyA D i sel=false:=by
 cases g:anyA D i sel
 ·rfl
 obtain⟨d,j,c⟩:=Ja.1 g;rw[h d j]at c;cases c
def Ud{z:Array Value}{sel:Int->Int->Bool}{P:World->Prop}(w:World)(L:ArS none w v D i)(hn:D.na i<=30000)(ht:TstA nf z sel P)(H:∀wb,Below w.heap.size w wb->P wb):
  Calls prog 141 #[v,.func (.func nf) #[] z] w (λr w'=>Below w.heap.size w w'/\∃k:Int,r=.returned (.int .i64 k)/\(decide (0<=k)=anyA D i sel)):=by
 obtain⟨T,o⟩:=ht;obtain⟨n,l⟩:=exq<|D.na i;have hv:∃a g b c,v=.slice a n g/\n<=g/\g<=maxLen/\(0<n->a=some (Ad b c)/\b<w.heap.size)/\∀k,k<n->w.cell? (Ad b (c+k*4))=some (.int .i64 (D.ain i k))/\w.cell? (Ad b (c+k*4+1))=some (.int .i64 (D.aout i k))/\w.cell? (Ad b (c+k*4+2))=some (.string (D.aw i k))/\w.cell? (Ad b (c+k*4+3))=some (.int .i64 (D.ato i k)):=by
  rcases L with⟨Q,a,g,rfl,N⟩|⟨b,c,g,rfl,E,h2,R,S⟩
  ·exact⟨a,g,0,0,by rw[l,Q],by omega,N,by omega,λk X=>by omega⟩
  exact⟨_,g,b,c,by rw[l],by omega,R,λ_=>⟨rfl,E.1⟩,λk X=>S k (by omega)⟩
 obtain⟨a,g,b,c,rfl,N,Y,I,h⟩:=hv;unfold maxLen at Y;rw[<-l]at hn;replace l:=qh l;clear L;replace I:=qh I;replace h:=qh h;replace o:=qh o;replace H:=qh H
 go_enter func141,ntmps141
 go_wp2_with fail
 go_loopw [8] (λJ wr=>∃q:Nat,q<=n/\J=.int .i64 (q:Int)/\Below w.heap.size w wr/\∀j,j<q->sel (D.ain i j) (D.aout i j)=false) (λJ _=>n-(intOf J).toNat)
 case atStart=>exact⟨0,Nat.zero_le _,rfl,blr,λj W=>by omega⟩
 obtain⟨q,hq,rfl,hb,u⟩:=hrel;replace u:=qh u;replace hb:=qh hb;by_cases G:q<n
 ·have Z:(q:Int)<(n:Int):=by omega
  have O:(0:Int)<=(q:Int):=by omega
  obtain⟨rfl,s⟩:=I.o (by omega);obtain⟨t0,t1,t2,t3⟩:=h.o q G;have c0:=(hb.o.cell (p:=(Ad b (c+q*4))) s).trans t0;have c1:=(hb.o.cell (p:=(Ad b (c+q*4+1))) s).trans t1;have c2:=(hb.o.cell (p:=(Ad b (c+q*4+2))) s).trans t2;have c3:=(hb.o.cell (p:=(Ad b (c+q*4+3))) s).trans t3;clear t0 t1 t2 t3;have m:=o.o wr (H.o wr hb.o) (D.ain i q) (D.aout i q) (D.aw i q) (D.ato i q);have K:=qh m;clear m
  go_wp2_with fail
  clear c0 c1 c2 c3;refine K.o.mono ?_;rintro r w1⟨rfl,F⟩;have C:=qh<|hb.o.trans (F.mono hb.o.size);clear F K;cases B:sel (D.ain i q) (D.aout i q)
  ·replace B:=qh B;go_wp2;go_roundw
   case rel=>exact⟨q+1,by omega,by go_num,C.o,λj W=>by
    by_cases e:j=q
    ·subst e;exact B.o
    exact u.o j (by omega)⟩
   simp[intOf];omega
  replace B:=qh B;go_wp2;go_ret;refine⟨C.o,_,rfl,?_⟩;have E:anyA D i sel=true:=Ja.2 ⟨q,by rw[<-l.o];exact G,B.o⟩;rw[E];simp
 have A:q=n:=by omega
 have U:¬((q:Int)<(n:Int)):=by omega
 replace A:=qh A;go_wp2;go_ret;refine⟨hb.o,_,rfl,?_⟩;have E:anyA D i sel=false:=LV λd hd=>u.o d (by rw[A.o,l.o];exact hd);rw[E];rfl
def Mw{c:Array Value}{sel:Int->Int->Bool}{P:World->Prop}(w:World)(g:ArS none w v D i)(hn:D.na i<=30000)(j:TstA nf c sel P)(h:∀wb,Below w.heap.size w wb->P wb):
  Calls prog 101 #[v,.func (.func nf) #[] c] w (λr w'=>r=.returned (.bool (anyA D i sel))/\Below w.heap.size w w'):=by
 have l:=qh<|Ud w g hn j h;clear g hn j h
 go_enter func101,ntmps101
 go_wp2_with fail
 refine l.o.mono ?_;rintro r m⟨hb,k,rfl,d⟩;replace d:=qh d;replace hb:=qh hb;go_wp2;go_ret;exact⟨AJ d.o,hb.o⟩
variable{w:World}{n x:Nat}{t:TypeId}{A:MD}{c:Value}{a:Option Addr}
def MsS(w:World)(v:Value)(n:Nat)(Ds:Nat->MD):Prop :=
 ∃(a:Option Addr) (cap b off:Nat) (F:Nat->Value),v=.slice a n cap/\n<=cap/\cap<=maxLen/\(0<n->a=some (Ad b off))/\∀i,i<n->b<w.heap.size/\w.cell? (Ad b (off+i*4))=some (.int .i64 (Ds i).kind)/\w.cell? (Ad b (off+i*4+1))=some (.int .i64 (Ds i).start)/\
  w.cell? (Ad b (off+i*4+2))=some (.string (Ds i).lead)/\w.cell? (Ad b (off+i*4+3))=some (F i)/\StS none w (F i) (Ds i)
def WsS(w:World)(v:Value)(m:Nat)(na:Nat->Nat):Prop :=
 ∃(a:Option Addr) (cap b off:Nat) (A:Nat->Option Addr) (C:Nat->Nat),v=.slice a m cap/\m<=cap/\cap<=maxLen/\(0<m->a=some (Ad b off))/\∀i,i<m->b<w.heap.size/\w.cell? (Ad b (off+i))=some (.slice (A i) (na i) (C i))
def WsS.nil(w:World)(na:Nat->Nat):WsS w (.slice none 0 0) 0 na:=⟨none,0,0,0,λ_=>none,λ_=>0,rfl,nlr,Nat.zero_le _,by omega,λi hi=>by omega⟩
def sM(f:Nat->Nat):Nat->Nat
 |0=>0
 |m+1=>sM f m+f m
theorem Gs{f:Nat->Nat}{B:Nat}:∀m,(∀i,i<m->f i<=B)->sM f m<=m*B
 |0,_=>Nat.zero_le _
 |m+1,h=>by
  have h1:=Gs m (λi hi=>h i (by omega));have h2:=h m (by omega);show sM f m+f m<=_;rw[Nat.succ_mul];omega
theorem Po{f:Nat->Nat}:∀m i,i<m->f i<=sM f m
 |m+1,i,h=>by
  show _<=sM f m+f m;by_cases e:i=m
  ·rw[e];omega
  have:=Po m i (by omega:i<m) (f:=f);omega
def pk3{α:Type}(a b c:α)(i:Nat):α:=if i=0 then a else if i=1 then b else c
def MsS.one(h:w.heap[x]?=some (.cells #[.int .i64 A.kind,.int .i64 A.start,.string A.lead,c] t (0,0)))(d:StS none w c A):MsS w (.slice (some (Ad x 0)) 1 1) 1 (pk3 A A A) :=
 ⟨_,1,x,0,pk3 c c c,rfl,nlr,by unfold maxLen;omega,λ_=>rfl,λi hi=>by
  obtain rfl:i=0:=by omega
  exact⟨lbk h,cellOf h 0 rfl,cellOf h 1 rfl,cellOf h 2 rfl,cellOf h 3 rfl,d⟩⟩
def MsS.two{B:MD}{d:Value}(h:w.heap[x]?=some (.cells #[.int .i64 A.kind,.int .i64 A.start,.string A.lead,d,.int .i64 B.kind,.int .i64 B.start,.string B.lead,c] t (0,0)))(g:StS none w d A)(j:StS none w c B):MsS w (.slice (some (Ad x 0)) 2 2) 2 (pk3 A B B) :=
 ⟨_,2,x,0,pk3 d c c,rfl,nlr,by unfold maxLen;omega,λ_=>rfl,λi hi=>by
  rcases (by omega:i=0\/i=1) with rfl|rfl
  ·exact⟨lbk h,cellOf h 0 rfl,cellOf h 1 rfl,cellOf h 2 rfl,cellOf h 3 rfl,g⟩
  exact⟨lbk h,cellOf h 4 rfl,cellOf h 5 rfl,cellOf h 6 rfl,cellOf h 7 rfl,j⟩⟩
def WsS.one{c:Nat}(h:w.heap[x]?=some (.cells #[.slice a n c] t (0,0))):WsS w (.slice (some (Ad x 0)) 1 1) 1 (pk3 n n n) :=
 ⟨_,1,x,0,λ_=>a,λ_=>c,rfl,nlr,by unfold maxLen;omega,λ_=>rfl,λi hi=>by
  obtain rfl:i=0:=by omega
  exact⟨lbk h,cellOf h 0 rfl⟩⟩
def WsS.two{a':Option Addr}{c d c':Nat}(h:w.heap[x]?=some (.cells #[.slice a n c,.slice a' d c'] t (0,0))):WsS w (.slice (some (Ad x 0)) 2 2) 2 (pk3 n d d) :=
 ⟨_,2,x,0,pk3 a a' a',pk3 c c' c',rfl,nlr,by unfold maxLen;omega,λ_=>rfl,λi hi=>by
  rcases (by omega:i=0\/i=1) with rfl|rfl
  ·exact⟨lbk h,cellOf h 0 rfl⟩
  exact⟨lbk h,cellOf h 1 rfl⟩⟩
end
end Go.Proofs.YtpldocnhbdlgfaaGreatDoor
