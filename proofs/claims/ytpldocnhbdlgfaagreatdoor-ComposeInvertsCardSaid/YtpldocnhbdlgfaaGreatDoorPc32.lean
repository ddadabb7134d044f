/- Parts. -/
import Derived.Test.YtpldocnhbdlgfaaGreatDoorPc30
import Derived.Test.YtpldocnhbdlgfaaGreatDoorPc24
namespace Go.Proofs.YtpldocnhbdlgfaaGreatDoor
set_option maxRecDepth 100000
set_option linter.all false
set_option maxHeartbeats 16000000
open Go Tryz
section
open Go.RowKit Go.Deep
variable{n:Nat}{v:Value}{x:Nat->Int}
def Ow(w:World)(B:Si none w v n x)(hn:(n:Int)<=9223372036854775807):
  Calls prog 13 #[v] w (λr w'=>r=.returned (.bool (isWord n x))/\w'=w):=by
 obtain⟨a,C,b,N,rfl,z,Q,J,hb,c⟩:=B.open;unfold maxLen at J;replace z:=qh z;replace c:=qh c;clear B hb;by_cases E:(200:Int)<(n:Int)
 ·have u:isWord n x=false:=by unfold isWord;rw[show decide (n<=200)=false by simp;omega];rfl
  rw[u];clear u
  go_enter func13,ntmps13
  go_wp2;go_ret;exact⟨rfl,rfl⟩
 have F:decide ((200:Int)<(n:Int))=false:=by simp;omega
 have K:n<=200:=by omega
 have u:isWord n x=DK n x 500:=by unfold isWord;rw[show decide (n<=200)=true by simp;omega];simp
 rw[u];clear u E
 go_enter func13,ntmps13
 go_wp2_with fail
 go_loop [3] (λi=>∃q:Nat,q<=n/\i=.int .i64 (q:Int)/\∀j,j<q->1<=x j/\x j<=500) (λi=>n-(intOf i).toNat)
 case atStart=>exact⟨0,Nat.zero_le _,rfl,λj I=>by omega⟩
 obtain⟨q,R,rfl,l⟩:=hrel;replace l:=qh l;by_cases o:q<n
 ·have L:(q:Int)<(n:Int):=by omega
  have A:(0:Int)<=(q:Int):=by omega
  obtain rfl:=z.o (by omega);have c0:=c.o q o;obtain⟨p,d⟩:=exq<|x q;rw[<-d]at c0;replace d:=qh d;by_cases O:p<1
  ·have g:DK n x 500=false:=PW.2 λh=>by have:=(h q o).1;rw[<-d.o]at this;omega
   have m:=qh g;clear g;go_wp2;go_ret;exact⟨AH m.o.symm,rfl⟩
  have D:decide (p<1)=false:=by simp;omega
  by_cases P:(500:Int)<p
  ·have g:DK n x 500=false:=PW.2 λh=>by have:=(h q o).2;rw[<-d.o]at this;omega
   have m:=qh g;clear g;go_wp2;go_ret;exact⟨AH m.o.symm,rfl⟩
  have G:decide ((500:Int)<p)=false:=by simp;omega
  go_wp2
  go_round
  case rel=>exact⟨q+1,by omega,by go_num,λj I=>by
   by_cases e:j=q
   ·subst e;rw[<-d.o];omega
   exact l.o j (by omega)⟩
  simp[intOf];omega
 have s:q=n:=by omega
 have H:¬((q:Int)<(n:Int)):=by omega
 have k:DK n x 500=true:=Iq.2 λi hi=>l.o i (by rw[s];exact hi);replace k:=qh k;clear s;go_wp2;go_ret;exact⟨AH k.o.symm,rfl⟩
def ME{w:World}(h:Si none w v n x):(n:Int)<=9223372036854775807:=by
 obtain⟨_,_,_,_,_,_,d,c,_⟩:=h.open;unfold maxLen at c;omega
end
section
open Go CSR
variable{A B:MD}{j k p q:Nat}
def WtOf(A:MD)(v:ByteArray):Prop:=v=A.lead\/(∃i,i<A.n/\v=A.fin i/\A.fin i≠⟨#[]⟩)\/∃i k,i<A.n/\k<A.na i/\v=A.aw i k
def BadW(A B:MD):Prop:=∃v w,WtOf A v/\WtOf B w/\(Ah A.kind v w).2≠0
structure Lvi(A B:MD)(n:Nat)(L:List ArP)(S0 S:List Plc × MD)(ac0 ac fl:Nat):Prop where
 nd:S.1.Nodup
 len:S.2.n=S.1.length
 ok:∀x ∈ S.1,x.1<A.n/\x.2.1<B.n
 le:S.1.length<=3001
 na:∀i,S.2.na i<=ac
 ac1:ac<=30001
 acn:ac<=ac0+L.length
 n1:n<S.1.length
 pre:∃m,S.1=S0.1++m
 fl2:fl=0\/fl=2
 good:fl=0->S.1.length<=3000/\S=addL n S0 L/\ac=ac0+L.length
 bad:fl=2->BadW A B\/3000<S.1.length\/30000<ac
section
variable{A B:MD}{n:Nat}{L:List ArP}{S0 S:List Plc × MD}{ac0 ac fl:Nat}
def Nu(S:List Plc × MD)(x:Plc):(numP S x).1.length<=S.1.length+1:=by
 unfold numP;split
 ·omega
 simp
def JE(S:List Plc × MD)(x:Plc):∃m,(numP S x).1=S.1++m:=by
 unfold numP;split
 ·exact⟨[],by simp⟩
 exact⟨[x],rfl⟩
def JC{S:List Plc × MD}(h:S.2.n=S.1.length)(x:Plc):(numP S x).2.n=(numP S x).1.length:=by
 unfold numP;split
 ·exact h
 show S.2.n+1=(S.1++[x]).length;rw[List.length_append,h];rfl
def JD(S:List Plc × MD)(x:Plc)(i:Nat):(numP S x).2.na i<=S.2.na i:=by
 unfold numP;split
 ·exact nlr
 show (if i=S.2.n then 0 else S.2.na i)<=_
 split<;>omega
def UE{S:List Plc × MD}(h:S.1.Nodup)(x:Plc):(numP S x).1.Nodup:=by
 unfold numP;split
 ·exact h
 rename_i g;refine List.nodup_append.2 ⟨h,by simp,λa d b hb=>?_⟩;have e:b=x:=by simpa using hb
 intro c;exact g (by rw[<-e,<-c];exact d)
def UD{S:List Plc × MD}{x y:Plc}(h:y ∈ (numP S x).1):y ∈ S.1\/y=x:=by
 unfold numP at h;split at h
 ·exact .inl h
 rcases List.mem_append.1 h with h|h
 ·exact .inl h
 exact .inr (by simpa using h)
def Lvi.keep(h:Lvi A B n L S0 S ac0 ac fl)(M:List ArP)(hf:fl≠0):Lvi A B n (L++M) S0 S ac0 ac fl :=
 { h with acn:=by have:=h.acn;rw[List.length_append];omega,good:=λe=>absurd e hf }
def Lvi.full(h:Lvi A B n L S0 S ac0 ac fl)(M:List ArP)(hb:3000<S.1.length\/30000<ac):Lvi A B n (L++M) S0 S ac0 ac 2 :=
 { h with acn:=by have:=h.acn;rw[List.length_append];omega,fl2:=.inr rfl,good:=λe=>absurd e (by decide),bad:=λ_=>.inr hb }
def Lvi.wrong(h:Lvi A B n L S0 S ac0 ac fl)(hb:BadW A B):Lvi A B n L S0 S ac0 ac 2 :=
 { h with fl2:=.inr rfl,good:=λe=>absurd e (by decide),bad:=λ_=>.inl hb }
theorem Lvi.add(h:Lvi A B n L S0 S ac0 ac fl){r:ArP}(u:r.2.2.2.1<A.n/\r.2.2.2.2.1<B.n)(H:S.1.length<=3000)(G:ac<=30000){e:Nat}(j:e=if 3000<(numP S r.2.2.2).1.length then 2 else fl):Lvi A B n (L++[r]) S0 (addP n S r) ac0 (ac+1) e:=by
 have C:=Nu S r.2.2.2;obtain⟨m,o⟩:=JE S r.2.2.2;obtain⟨m0,k⟩:=h.pre;refine⟨UE h.nd _,JC h.len _,λx z=>?_,by show (numP S r.2.2.2).1.length<=3001;omega,λi=>?_,by omega,by have:=h.acn;rw[List.length_append];show ac+1<=ac0+(L.length+1);omega,by show n<(numP S r.2.2.2).1.length;rw[o,List.length_append];have:=h.n1;omega,⟨m0++m,by show (numP S r.2.2.2).1=_;rw[o,k,List.append_assoc]⟩,?_,λg=>?_,λl=>?_⟩
 ·rcases UD z with c|c
  ·exact h.ok x c
  rw[c];exact u
 ·show (if i=n then (numP S r.2.2.2).2.na n+1 else (numP S r.2.2.2).2.na i)<=ac+1
  have c:=JD S r.2.2.2 n;have D:=JD S r.2.2.2 i;have E:=h.na n;have F:=h.na i
  split<;>omega
 ·rw[j];split
  ·exact .inr rfl
  exact h.fl2
 ·have d:¬3000<(numP S r.2.2.2).1.length:=λd=>by rw[j,ifp d]at g;cases g
  rw[j,ifn d]at g;obtain⟨_,p,s⟩:=h.good g;refine⟨by show (numP S r.2.2.2).1.length<=3000;omega,?_,by rw[s,List.length_append];rfl⟩;rw[Qm,<-p];rfl
 by_cases d:3000<(numP S r.2.2.2).1.length
 ·exact .inr (.inl d)
 rw[j,ifn d]at l
 rcases h.bad l with c|c|c
 ·exact .inl c
 ·omega
 omega
end
def KG{k:Int}{v w:ByteArray}(c:Aj k v=true)(d:Aj k w=true):(Ah k v w).2=0\/(Ah k v w).2=2:=by
 unfold Aj at c d;obtain⟨a,g⟩:=Option.isSome_iff_exists.1 c;obtain⟨b,hb⟩:=Option.isSome_iff_exists.1 d;unfold Ah;rw[g,hb]
 rcases FM (Ag k a b) with⟨_,h⟩|⟨_,h⟩
 ·left;show (limV (Ag k a b)).2=0;rw[h]
 exact .inr h
section
variable{A B:MD}{n p q:Nat}{S:List Plc × MD}{ac fl:Nat}
def Jd(D:MD):(finP A B p q n D).n=D.n/\(finP A B p q n D).na=D.na:=by unfold finP;split<;>exact⟨rfl,rfl⟩
def Lvi.fin0(h:Lvi A B n [] S S ac ac 0):Lvi A B n [] (S.1,finP A B p q n S.2) (S.1,finP A B p q n S.2) ac ac 0 :=
 ⟨h.nd,by show (finP A B p q n S.2).n=_;rw[(Jd _).1];exact h.len,h.ok,h.le,λi=>by show (finP A B p q n S.2).na i<=_;rw[(Jd _).2];exact h.na i,h.ac1,h.acn,h.n1,⟨[],by simp⟩,h.fl2,λe=>⟨(h.good e).1,rfl,(h.good e).2.2⟩,h.bad⟩
end
def PrQ(A B:MD)(p q k j:Nat):Prop:=(A.fin p≠⟨#[]⟩->B.fin q≠⟨#[]⟩->(Ah A.kind (A.fin p) (B.fin q)).2=0)/\∀k' j',(k' < k\/k'=k/\j' < j)->k' < A.na p->j' < B.na q->A.aout p k'≠0->B.ain q j'=A.aout p k'->(Ah A.kind (A.aw p k') (B.aw q j')).2=0
def PrQ.all(h:PrQ A B p q (A.na p) 0):PrOk A B p q:=⟨h.1,λk j c g d e=>h.2 k j (.inl c) c g d e⟩
def PrQ.skip(h:PrQ A B p q k 0)(i:A.aout p k=0):PrQ A B p q (k+1) 0:=⟨h.1,λd m o l j c e=>by
 by_cases g:d=k
 ·subst g;exact absurd i c
 exact h.2 d m (.inl (by omega)) l j c e⟩
def PrQ.next(h:PrQ A B p q k (B.na q)):PrQ A B p q (k+1) 0:=⟨h.1,λj i l g d c e=>h.2 j i (by omega) g d c e⟩
def PrQ.no(h:PrQ A B p q k j)(i:B.ain q j≠A.aout p k):PrQ A B p q k (j+1):=⟨h.1,λd c s o m l e=>by
 by_cases g:d=k/\c=j
 ·obtain⟨rfl,rfl⟩:=g;exact absurd e i
 exact h.2 d c (by omega) o m l e⟩
def PrQ.yes(h:PrQ A B p q k j)(i:(Ah A.kind (A.aw p k) (B.aw q j)).2=0):PrQ A B p q k (j+1):=⟨h.1,λd c s o m l e=>by
 by_cases g:d=k/\c=j
 ·obtain⟨rfl,rfl⟩:=g;exact i
 exact h.2 d c (by omega) o m l e⟩
theorem Nc(A B:MD)(p q k:Nat):∀m,(mtL A B p q k m).length<=m
 |0=>nlr
 |m+1=>by
  have ih:=Nc A B p q k m;show (mtL A B p q k m++_).length<=_;rw[List.length_append]
  split<;>simp<;>omega
theorem MH(A B:MD)(p q:Nat)(fl:Bool):∀m,(lfL A B p q fl m).length<=m+m*B.na q
 |0=>Nat.zero_le _
 |m+1=>by
  have ih:=MH A B p q fl m;have h1:=Nc A B p q m (B.na q);show (lfL A B p q fl m++_).length<=_;rw[List.length_append,Nat.succ_mul]
  split
  ·split<;>simp<;>omega
  omega
theorem Oo(B:MD)(al:Bool)(p q:Nat):∀m,(rtL B al p q m).length<=m
 |0=>nlr
 |m+1=>by
  have ih:=Oo B al p q m;show (rtL B al p q m++_).length<=_;rw[List.length_append]
  split<;>simp<;>omega
theorem Eu(D:MD):∀n i,i<n->D.na i<=Ai D n
 |0,i,h=>by omega
 |n+1,i,h=>by
  show D.na i<=Ai D n+D.na n;by_cases e:i=n
  ·subst e;omega
  have:=Eu D n i (by omega);omega
def Qw(g:p<A.n)(h:q<B.n)(al fl:Bool):(arL A B al p q fl).length<=Ai A A.n+Ai A A.n*Ai B B.n+Ai B B.n:=by
 have i:=MH A B p q fl (A.na p);have j:=Oo B al p q (B.na q);have c:=Eu A A.n p g;have d:=Eu B B.n q h;have k:A.na p*B.na q<=Ai A A.n*Ai B B.n:=Nat.mul_le_mul c d;unfold arL;rw[List.length_append];omega
theorem Jg{α β:Type}{f:α->List β}{c:Nat}(h:∀a,(f a).length=c):∀l:List α,(l.flatMap f).length=l.length*c
 | []=>by simp
 |a::t=>by rw[List.flatMap_cons,List.length_append,h a,Jg h t,List.length_cons,Nat.succ_mul];omega
def SQ{a b:Nat}{l:List Plc}(hn:l.Nodup)(h:∀x ∈ l,x.1<a/\x.2.1<b):l.length<=2*(a*b):=by
 have d:∀x ∈ l,x ∈ (List.range a).flatMap (λp=>(List.range b).flatMap (λq=>[(p,q,false),(p,q,true)])):=λx k=>by
  obtain⟨p,q,f⟩:=x;obtain⟨i,j⟩:=h _ k;simp only[List.mem_flatMap,List.mem_range];refine⟨p,i,q,j,?_⟩;cases f<;>simp
 have g:=List.Nodup.length_le_of_subset hn d;rw[Jg (c:=b*2) (λp=>(Jg (c:=2) (λq=>rfl) _).trans (by rw[List.length_range])),List.length_range]at g;have e:a*(b*2)=2*(a*b):=by rw[<-Nat.mul_assoc,Nat.mul_comm]
 omega
end
section
open Go.RowKit Go.Deep
variable{D:MD}{i nf:Nat}{v:Value}
def anyA(D:MD)(i:Nat)(sel:Int->Int->Bool):Bool:=(List.range (D.na i)).any λd=>sel (D.ain i d) (D.aout i d)
def Iz{sel:Int->Int->Bool}:anyA D i sel=true↔∃d,d<D.na i/\sel (D.ain i d) (D.aout i d)=true:=by simp[anyA]
theorem Lm{sel:Int->Int->Bool}(h:∀d,d<D.na i->sel (D.ain i d) (D.aout i d)=false):anyA D i sel=false:=by
 cases g:anyA D i sel
 ·rfl
 obtain⟨d,j,c⟩:=Iz.1 g;rw[h d j]at c;cases c
def Tg{z:Array Value}{sel:Int->Int->Bool}{P:World->Prop}(w:World)(L:ArS none w v D i)(hn:D.na i<=30000)(ht:TstA nf z sel P)(H:∀wb,Below w.heap.size w wb->P wb):
  Calls prog 141 #[v,.func (.func nf) #[] z] w (λr w'=>Below w.heap.size w w'/\∃k:Int,r=.returned (.int .i64 k)/\(decide (0<=k)=anyA D i sel)):=by
 obtain⟨T,o⟩:=ht;obtain⟨n,l⟩:=exq<|D.na i;have hv:∃a g b c,v=.slice a n g/\n<=g/\g<=maxLen/\(0<n->a=some (Ad b c)/\b<w.heap.size)/\∀k,k<n->w.cell? (Ad b (c+k*4))=some (.int .i64 (D.ain i k))/\w.cell? (Ad b (c+k*4+1))=some (.int .i64 (D.aout i k))/\w.cell? (Ad b (c+k*4+2))=some (.string (D.aw i k))/\w.cell? (Ad b (c+k*4+3))=some (.int .i64 (D.ato i k)):=by
  rcases L with⟨Q,a,g,rfl,N⟩|⟨b,c,g,rfl,E,h2,R,S⟩
  ·exact⟨a,g,0,0,by rw[l,Q],by omega,N,by omega,λk X=>by omega⟩
  exact⟨_,g,b,c,by rw[l],by omega,R,λ_=>⟨rfl,E.1⟩,λk X=>S k (by omega)⟩
 obtain⟨a,g,b,c,rfl,N,Y,I,h⟩:=hv;unfold maxLen at Y;rw[<-l]at hn;replace l:=qh l;clear L;replace I:=qh I;replace h:=qh h;replace o:=qh o;replace H:=qh H
 go_enter func141,ntmps141
 go_wp2_with fail
 go_loopw [8] (λJ wr=>∃q:Nat,q<=n/\J=.int .i64 (q:Int)/\Below w.heap.size w wr/\∀j,j<q->sel (D.ain i j) (D.aout i j)=false) (λJ _=>n-(intOf J).toNat)
 case atStart=>exact⟨0,Nat.zero_le _,rfl,blr,λj W=>by omega⟩
 obtain⟨q,hq,rfl,hb,u⟩:=hrel;replace u:=qh u;replace hb:=qh hb;by_cases G:q<n
 ·have Z:(q:Int)<(n:Int):=by omega
  have O:(0:Int)<=(q:Int):=by omega
  obtain⟨rfl,s⟩:=I.o (by omega);obtain⟨t0,t1,t2,t3⟩:=h.o q G;have c0:=(hb.o.cell (p:=(Ad b (c+q*4))) s).trans t0;have c1:=(hb.o.cell (p:=(Ad b (c+q*4+1))) s).trans t1;have c2:=(hb.o.cell (p:=(Ad b (c+q*4+2))) s).trans t2;have c3:=(hb.o.cell (p:=(Ad b (c+q*4+3))) s).trans t3;clear t0 t1 t2 t3;have m:=o.o wr (H.o wr hb.o) (D.ain i q) (D.aout i q) (D.aw i q) (D.ato i q);have K:=qh m;clear m
  go_wp2_with fail
  clear c0 c1 c2 c3;refine K.o.mono ?_;rintro r w1⟨rfl,F⟩;have C:=qh<|hb.o.trans (F.mono hb.o.size);clear F K;cases B:sel (D.ain i q) (D.aout i q)
  ·replace B:=qh B;go_wp2;go_roundw
   case rel=>exact⟨q+1,by omega,by go_num,C.o,λj W=>by
    by_cases e:j=q
    ·subst e;exact B.o
    exact u.o j (by omega)⟩
   simp[intOf];omega
  replace B:=qh B;go_wp2;go_ret;refine⟨C.o,_,rfl,?_⟩;have E:anyA D i sel=true:=Iz.2 ⟨q,by rw[<-l.o];exact G,B.o⟩;rw[E];simp
 have A:q=n:=by omega
 have U:¬((q:Int)<(n:Int)):=by omega
 replace A:=qh A;go_wp2;go_ret;refine⟨hb.o,_,rfl,?_⟩;have E:anyA D i sel=false:=Lm λd hd=>u.o d (by rw[A.o,l.o];exact hd);rw[E];rfl
def LP{c:Array Value}{sel:Int->Int->Bool}{P:World->Prop}(w:World)(g:ArS none w v D i)(hn:D.na i<=30000)(j:TstA nf c sel P)(h:∀wb,Below w.heap.size w wb->P wb):
  Calls prog 101 #[v,.func (.func nf) #[] c] w (λr w'=>r=.returned (.bool (anyA D i sel))/\Below w.heap.size w w'):=by
 have l:=qh<|Tg w g hn j h;clear g hn j h
 go_enter func101,ntmps101
 go_wp2_with fail
 refine l.o.mono ?_;rintro r m⟨hb,k,rfl,d⟩;replace d:=qh d;replace hb:=qh hb;go_wp2;go_ret;exact⟨AH d.o,hb.o⟩
end
end Go.Proofs.YtpldocnhbdlgfaaGreatDoor
