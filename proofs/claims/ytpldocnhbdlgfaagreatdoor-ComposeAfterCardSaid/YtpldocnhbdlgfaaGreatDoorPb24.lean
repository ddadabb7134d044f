/- Parts. -/
import Derived.Test.YtpldocnhbdlgfaaGreatDoorPb22
import Derived.Test.YtpldocnhbdlgfaaGreatDoorPb23
namespace Go.Proofs.YtpldocnhbdlgfaaGreatDoor
set_option maxRecDepth 100000
set_option linter.all false
set_option maxHeartbeats 16000000
open Go Tryz
section
open Go.RowKit Go.Deep
variable{n:Nat}{v:Value}{x:Nat->Int}
def Gn(w:World)(B:Si none w v n x)(hn:(n:Int)<=9223372036854775807):
  Calls prog 13 #[v] w (λr w'=>r=.returned (.bool (isWord n x))/\w'=w):=by
 obtain⟨a,C,b,N,rfl,z,Q,J,hb,c⟩:=B.open;unfold maxLen at J;replace z:=qh z;replace c:=qh c;clear B hb;by_cases E:(200:Int)<(n:Int)
 ·have u:isWord n x=false:=by unfold isWord;rw[show decide (n<=200)=false by simp;omega];rfl
  rw[u];clear u
  go_enter func13,ntmps13
  go_wp2;go_ret;exact⟨rfl,rfl⟩
 have F:decide ((200:Int)<(n:Int))=false:=by simp;omega
 have K:n<=200:=by omega
 have u:isWord n x=DK n x 500:=by unfold isWord;rw[show decide (n<=200)=true by simp;omega];simp
 rw[u];clear u E
 go_enter func13,ntmps13
 go_wp2_with fail
 go_loop [3] (λi=>∃q:Nat,q<=n/\i=.int .i64 (q:Int)/\∀j,j<q->1<=x j/\x j<=500) (λi=>n-(intOf i).toNat)
 case atStart=>exact⟨0,Nat.zero_le _,rfl,λj I=>by omega⟩
 obtain⟨q,R,rfl,l⟩:=hrel;replace l:=qh l;by_cases o:q<n
 ·have L:(q:Int)<(n:Int):=by omega
  have A:(0:Int)<=(q:Int):=by omega
  obtain rfl:=z.o (by omega);have c0:=c.o q o;obtain⟨p,d⟩:=exq<|x q;rw[<-d]at c0;replace d:=qh d;by_cases O:p<1
  ·have g:DK n x 500=false:=Qr.2 λh=>by have:=(h q o).1;rw[<-d.o]at this;omega
   have m:=qh g;clear g;go_wp2;go_ret;exact⟨AI m.o.symm,rfl⟩
  have D:decide (p<1)=false:=by simp;omega
  by_cases P:(500:Int)<p
  ·have g:DK n x 500=false:=Qr.2 λh=>by have:=(h q o).2;rw[<-d.o]at this;omega
   have m:=qh g;clear g;go_wp2;go_ret;exact⟨AI m.o.symm,rfl⟩
  have G:decide ((500:Int)<p)=false:=by simp;omega
  go_wp2
  go_round
  case rel=>exact⟨q+1,by omega,by go_num,λj I=>by
   by_cases e:j=q
   ·subst e;rw[<-d.o];omega
   exact l.o j (by omega)⟩
  simp[intOf];omega
 have s:q=n:=by omega
 have H:¬((q:Int)<(n:Int)):=by omega
 have k:DK n x 500=true:=Fu.2 λi hi=>l.o i (by rw[s];exact hi);replace k:=qh k;clear s;go_wp2;go_ret;exact⟨AI k.o.symm,rfl⟩
def MS{w:World}(h:Si none w v n x):(n:Int)<=9223372036854775807:=by
 obtain⟨_,_,_,_,_,_,d,c,_⟩:=h.open;unfold maxLen at c;omega
end
section
open Go CSR
variable{A B:MD}{j k p q:Nat}
def WtOf(A:MD)(v:ByteArray):Prop:=v=A.lead\/(∃i,i<A.n/\v=A.fin i/\A.fin i≠⟨#[]⟩)\/∃i k,i<A.n/\k<A.na i/\v=A.aw i k
def BadW(A B:MD):Prop:=∃v w,WtOf A v/\WtOf B w/\(Ae A.kind v w).2≠0
structure Lvi(A B:MD)(n:Nat)(L:List ArP)(S0 S:List Plc × MD)(ac0 ac fl:Nat):Prop where
 nd:S.1.Nodup
 len:S.2.n=S.1.length
 ok:∀x ∈ S.1,x.1<A.n/\x.2.1<B.n
 le:S.1.length<=3001
 na:∀i,S.2.na i<=ac
 ac1:ac<=30001
 acn:ac<=ac0+L.length
 n1:n<S.1.length
 pre:∃m,S.1=S0.1++m
 fl2:fl=0\/fl=2
 good:fl=0->S.1.length<=3000/\S=addL n S0 L/\ac=ac0+L.length
 bad:fl=2->BadW A B\/3000<S.1.length\/30000<ac
section
variable{A B:MD}{n:Nat}{L:List ArP}{S0 S:List Plc × MD}{ac0 ac fl:Nat}
def Hv(S:List Plc × MD)(x:Plc):(numP S x).1.length<=S.1.length+1:=by
 unfold numP;split
 ·omega
 simp
def FZ(S:List Plc × MD)(x:Plc):∃m,(numP S x).1=S.1++m:=by
 unfold numP;split
 ·exact⟨[],by simp⟩
 exact⟨[x],rfl⟩
def FY{S:List Plc × MD}(h:S.2.n=S.1.length)(x:Plc):(numP S x).2.n=(numP S x).1.length:=by
 unfold numP;split
 ·exact h
 show S.2.n+1=(S.1++[x]).length;rw[List.length_append,h];rfl
def Fh(S:List Plc × MD)(x:Plc)(i:Nat):(numP S x).2.na i<=S.2.na i:=by
 unfold numP;split
 ·exact nlr
 show (if i=S.2.n then 0 else S.2.na i)<=_
 split<;>omega
def NN{S:List Plc × MD}(h:S.1.Nodup)(x:Plc):(numP S x).1.Nodup:=by
 unfold numP;split
 ·exact h
 rename_i g;refine List.nodup_append.2 ⟨h,by simp,λa d b hb=>?_⟩;have e:b=x:=by simpa using hb
 intro c;exact g (by rw[<-e,<-c];exact d)
def NM{S:List Plc × MD}{x y:Plc}(h:y ∈ (numP S x).1):y ∈ S.1\/y=x:=by
 unfold numP at h;split at h
 ·exact .inl h
 rcases List.mem_append.1 h with h|h
 ·exact .inl h
 exact .inr (by simpa using h)
def Lvi.keep(h:Lvi A B n L S0 S ac0 ac fl)(M:List ArP)(hf:fl≠0):Lvi A B n (L++M) S0 S ac0 ac fl :=
 { h with acn:=by have:=h.acn;rw[List.length_append];omega,good:=λe=>absurd e hf }
def Lvi.full(h:Lvi A B n L S0 S ac0 ac fl)(M:List ArP)(hb:3000<S.1.length\/30000<ac):Lvi A B n (L++M) S0 S ac0 ac 2 :=
 { h with acn:=by have:=h.acn;rw[List.length_append];omega,fl2:=.inr rfl,good:=λe=>absurd e (by decide),bad:=λ_=>.inr hb }
def Lvi.wrong(h:Lvi A B n L S0 S ac0 ac fl)(hb:BadW A B):Lvi A B n L S0 S ac0 ac 2 :=
 { h with fl2:=.inr rfl,good:=λe=>absurd e (by decide),bad:=λ_=>.inl hb }
theorem Lvi.add(h:Lvi A B n L S0 S ac0 ac fl){r:ArP}(u:r.2.2.2.1<A.n/\r.2.2.2.2.1<B.n)(H:S.1.length<=3000)(G:ac<=30000){e:Nat}(j:e=if 3000<(numP S r.2.2.2).1.length then 2 else fl):Lvi A B n (L++[r]) S0 (addP n S r) ac0 (ac+1) e:=by
 have C:=Hv S r.2.2.2;obtain⟨m,o⟩:=FZ S r.2.2.2;obtain⟨m0,k⟩:=h.pre;refine⟨NN h.nd _,FY h.len _,λx z=>?_,by show (numP S r.2.2.2).1.length<=3001;omega,λi=>?_,by omega,by have:=h.acn;rw[List.length_append];show ac+1<=ac0+(L.length+1);omega,by show n<(numP S r.2.2.2).1.length;rw[o,List.length_append];have:=h.n1;omega,⟨m0++m,by show (numP S r.2.2.2).1=_;rw[o,k,List.append_assoc]⟩,?_,λg=>?_,λl=>?_⟩
 ·rcases NM z with c|c
  ·exact h.ok x c
  rw[c];exact u
 ·show (if i=n then (numP S r.2.2.2).2.na n+1 else (numP S r.2.2.2).2.na i)<=ac+1
  have c:=Fh S r.2.2.2 n;have D:=Fh S r.2.2.2 i;have E:=h.na n;have F:=h.na i
  split<;>omega
 ·rw[j];split
  ·exact .inr rfl
  exact h.fl2
 ·have d:¬3000<(numP S r.2.2.2).1.length:=λd=>by rw[j,ifp d]at g;cases g
  rw[j,ifn d]at g;obtain⟨_,p,s⟩:=h.good g;refine⟨by show (numP S r.2.2.2).1.length<=3000;omega,?_,by rw[s,List.length_append];rfl⟩;rw[LA,<-p];rfl
 by_cases d:3000<(numP S r.2.2.2).1.length
 ·exact .inr (.inl d)
 rw[j,ifn d]at l
 rcases h.bad l with c|c|c
 ·exact .inl c
 ·omega
 omega
end
def Gz{k:Int}{v w:ByteArray}(c:Ak k v=true)(d:Ak k w=true):(Ae k v w).2=0\/(Ae k v w).2=2:=by
 unfold Ak at c d;obtain⟨a,g⟩:=Option.isSome_iff_exists.1 c;obtain⟨b,hb⟩:=Option.isSome_iff_exists.1 d;unfold Ae;rw[g,hb]
 rcases FR (Ai k a b) with⟨_,h⟩|⟨_,h⟩
 ·left;show (limV (Ai k a b)).2=0;rw[h]
 exact .inr h
section
variable{A B:MD}{n p q:Nat}{S:List Plc × MD}{ac fl:Nat}
def Hb(D:MD):(finP A B p q n D).n=D.n/\(finP A B p q n D).na=D.na:=by unfold finP;split<;>exact⟨rfl,rfl⟩
def Lvi.fin0(h:Lvi A B n [] S S ac ac 0):Lvi A B n [] (S.1,finP A B p q n S.2) (S.1,finP A B p q n S.2) ac ac 0 :=
 ⟨h.nd,by show (finP A B p q n S.2).n=_;rw[(Hb _).1];exact h.len,h.ok,h.le,λi=>by show (finP A B p q n S.2).na i<=_;rw[(Hb _).2];exact h.na i,h.ac1,h.acn,h.n1,⟨[],by simp⟩,h.fl2,λe=>⟨(h.good e).1,rfl,(h.good e).2.2⟩,h.bad⟩
end
def PrQ(A B:MD)(p q k j:Nat):Prop:=(A.fin p≠⟨#[]⟩->B.fin q≠⟨#[]⟩->(Ae A.kind (A.fin p) (B.fin q)).2=0)/\∀k' j',(k' < k\/k'=k/\j' < j)->k' < A.na p->j' < B.na q->A.aout p k'≠0->B.ain q j'=A.aout p k'->(Ae A.kind (A.aw p k') (B.aw q j')).2=0
def PrQ.all(h:PrQ A B p q (A.na p) 0):PrOk A B p q:=⟨h.1,λk j c g d e=>h.2 k j (.inl c) c g d e⟩
def PrQ.skip(h:PrQ A B p q k 0)(i:A.aout p k=0):PrQ A B p q (k+1) 0:=⟨h.1,λd m o l j c e=>by
 by_cases g:d=k
 ·subst g;exact absurd i c
 exact h.2 d m (.inl (by omega)) l j c e⟩
def PrQ.next(h:PrQ A B p q k (B.na q)):PrQ A B p q (k+1) 0:=⟨h.1,λj i l g d c e=>h.2 j i (by omega) g d c e⟩
def PrQ.no(h:PrQ A B p q k j)(i:B.ain q j≠A.aout p k):PrQ A B p q k (j+1):=⟨h.1,λd c s o m l e=>by
 by_cases g:d=k/\c=j
 ·obtain⟨rfl,rfl⟩:=g;exact absurd e i
 exact h.2 d c (by omega) o m l e⟩
def PrQ.yes(h:PrQ A B p q k j)(i:(Ae A.kind (A.aw p k) (B.aw q j)).2=0):PrQ A B p q k (j+1):=⟨h.1,λd c s o m l e=>by
 by_cases g:d=k/\c=j
 ·obtain⟨rfl,rfl⟩:=g;exact i
 exact h.2 d c (by omega) o m l e⟩
theorem Nu(A B:MD)(p q k:Nat):∀m,(mtL A B p q k m).length<=m
 |0=>nlr
 |m+1=>by
  have ih:=Nu A B p q k m;show (mtL A B p q k m++_).length<=_;rw[List.length_append]
  split<;>simp<;>omega
theorem MX(A B:MD)(p q:Nat)(fl:Bool):∀m,(lfL A B p q fl m).length<=m+m*B.na q
 |0=>Nat.zero_le _
 |m+1=>by
  have ih:=MX A B p q fl m;have h1:=Nu A B p q m (B.na q);show (lfL A B p q fl m++_).length<=_;rw[List.length_append,Nat.succ_mul]
  split
  ·split<;>simp<;>omega
  omega
theorem OS(B:MD)(al:Bool)(p q:Nat):∀m,(rtL B al p q m).length<=m
 |0=>nlr
 |m+1=>by
  have ih:=OS B al p q m;show (rtL B al p q m++_).length<=_;rw[List.length_append]
  split<;>simp<;>omega
theorem Dp(D:MD):∀n i,i<n->D.na i<=Ah D n
 |0,i,h=>by omega
 |n+1,i,h=>by
  show D.na i<=Ah D n+D.na n;by_cases e:i=n
  ·subst e;omega
  have:=Dp D n i (by omega);omega
def QV(g:p<A.n)(h:q<B.n)(al fl:Bool):(arL A B al p q fl).length<=Ah A A.n+Ah A A.n*Ah B B.n+Ah B B.n:=by
 have i:=MX A B p q fl (A.na p);have j:=OS B al p q (B.na q);have c:=Dp A A.n p g;have d:=Dp B B.n q h;have k:A.na p*B.na q<=Ah A A.n*Ah B B.n:=Nat.mul_le_mul c d;unfold arL;rw[List.length_append];omega
theorem JA{α β:Type}{f:α->List β}{c:Nat}(h:∀a,(f a).length=c):∀l:List α,(l.flatMap f).length=l.length*c
 | []=>by simp
 |a::t=>by rw[List.flatMap_cons,List.length_append,h a,JA h t,List.length_cons,Nat.succ_mul];omega
def Tq{a b:Nat}{l:List Plc}(hn:l.Nodup)(h:∀x ∈ l,x.1<a/\x.2.1<b):l.length<=2*(a*b):=by
 have d:∀x ∈ l,x ∈ (List.range a).flatMap (λp=>(List.range b).flatMap (λq=>[(p,q,false),(p,q,true)])):=λx k=>by
  obtain⟨p,q,f⟩:=x;obtain⟨i,j⟩:=h _ k;simp only[List.mem_flatMap,List.mem_range];refine⟨p,i,q,j,?_⟩;cases f<;>simp
 have g:=List.Nodup.length_le_of_subset hn d;rw[JA (c:=b*2) (λp=>(JA (c:=2) (λq=>rfl) _).trans (by rw[List.length_range])),List.length_range]at g;have e:a*(b*2)=2*(a*b):=by rw[<-Nat.mul_assoc,Nat.mul_comm]
 omega
end
section
open Go.RowKit Go.Deep
def WA{w:World}{B d:Nat}{e:TypeId}{s n:Nat}{v:Value}{xs:List Value}(h:w.ownsRow d e s v n xs)(j:B<=d):w.ownsRow B e s v n xs :=
 ⟨h.1,h.2.imp id (λ⟨g,c,cur,k,i,r⟩=>⟨g,c,cur,k,Nat.le_trans j i,r⟩)⟩
def cpD(D:MD)(i:Nat):MD:={ D with n:=i }
def OwM.push{wr w1 w':World}{B i:Nat}{sv g v:Value}{D:MD}{R:Nat->Value}{o:Obj}(h:OwM wr B sv (cpD D i) R)(G:B<=wr.heap.size)(u:wr.grownBy w1 none)
  (E:w1.ownsRow wr.heap.size 59 4 v (D.na i) (cat (arc4 D i) (D.na i)))
  (F:w'.ownsRow B 63 2 g (i+1) (cat (st2 D R) i++[.string (D.fin i),v])) (C:(w1.alloc o).grownBy w' sv.ownBlock) :
  OwM w' B g (cpD D (i+1)) (λj=>if j=i then v else R j):=by
 have s:∀j,j<i->∀b,(R j).ownBlock=some b->b<wr.heap.size:=λj k b hb=>(World.ownsRow.lt (h.row j k) b hb).2;have d:∀b,v.ownBlock=some b->wr.heap.size<=b:=λb hb=>(World.ownsRow.lt E b hb).1;refine⟨?_,λj k=>?_,λj l k H p b hb=>?_⟩
 ·have e:cat (st2 (cpD D (i+1)) (λj=>if j=i then v else R j)) (i+1)=cat (st2 D R) i++[.string (D.fin i),v]:=by
   rw[Dw]
   congr 1
   ·exact DR λj k=>by simp[st2,cpD,show j≠i by omega]
   simp[st2,cpD]
  show w'.ownsRow B 63 2 g (i+1) (cat _ (i+1));rw[e];exact F
 ·by_cases e:j=i
  ·subst e;show w'.ownsRow B _ 4 (if j=j then v else R j) (D.na j) (cat (arc4 D j) (D.na j))
   rw[ifp rfl];refine AJ (World.ownsRow.alloc (WA E G) o) C (λb hb m=>?_);have:=d b hb;have:=(World.ownsRow.lt h.top b m).2;omega
  have c:j<i:=by have:j<i+1:=k;omega
  show w'.ownsRow B _ 4 (if j=i then v else R j) (D.na j) (cat (arc4 D j) (D.na j))
  rw[ifn e];exact AJ (World.ownsRow.alloc (AJ (h.row j c) u (λb _=>by simp)) o) C (λb hb=>h.tne c hb)
 have c:j<i+1:=k;have I:l<i+1:=H;by_cases z:j=i
 ·simp only[ifp z]at hb;simp only[ifn (λe:l=i=>p (by omega))];intro m;have:=d b hb;have:=s l (by omega) b m;omega
 simp only[ifn z]at hb;by_cases A:l=i
 ·simp only[ifp A];intro m;have:=d b m;have:=s j (by omega) b hb;omega
 simp only[ifn A];exact h.apart j l (show j<i by omega) (show l<i by omega) p b hb
variable{w:World}{B:Nat}{sv:Value}{D:MD}{R:Nat->Value}
def OwM.box4{rb:Nat}{a0 m o a3:Value}(h:OwM w B sv D R)(hb:w.heap[rb]?=some (.cells #[a0,m,o,a3] 25 (0,0)))(g j k l:Value):
  OwM ((((w.setCell (Ad rb 0) g).setCell (Ad rb 1) j).setCell (Ad rb 2) k).setCell (Ad rb 3) l) B sv D R :=
 have d:=Ao h.top hb (by decide);have c:=λi (hi:i<D.n)=>Ao (h.row i hi) hb (by decide)
 (((h.other (p:=(Ad rb 0)) d c g).other (p:=(Ad rb 1)) d c j).other (p:=(Ad rb 2)) d c k).other (p:=(Ad rb 3)) d c l
def Dc{c:Nat}(h:OwM w B sv D R)(o:c<=B):OwM w c sv D R :=
 have j:∀{e:TypeId} {s n:Nat} {v:Value} {xs:List Value},w.ownsRow B e s v n xs->w.ownsRow c e s v n xs:=λh=>⟨h.1,h.2.imp id (λ⟨g,d,cur,k,l,m⟩=>⟨g,d,cur,k,Nat.le_trans o l,m⟩)⟩
 ⟨j h.top,λi hi=>j (h.row i hi),h.apart⟩
def OwM.ma{w':World}(h:OwM w B sv D R)(hb:Below w.heap.size w w'):Ma none w' (.agg #[.int .i64 D.kind,.int .i64 D.start,.string D.lead,sv]) D:=⟨sv,rfl,h.sts.kept (Ag hb none)⟩
variable{F:Nat->Prop}{db:Nat}{one:ByteArray}{fl g:Int}
def BlS(F:Nat->Prop)(B db:Nat)(D:MD)(one:ByteArray)(ac fl:Int)(w:World):Prop:=∃R sv,Bld w B db D R sv one ac fl/\∀b,F b->b≠db/\Fre w sv R D.n b
def BlN(F:Nat->Prop)(B db:Nat)(D:MD)(one:ByteArray)(ac fl:Int)(w w':World):Prop:=BlS F B db D one ac fl w'/\(∀b,F b->w'.heap[b]?=w.heap[b]?)/\Below B w w'
theorem BlN.trans{F:Nat->Prop}{B db:Nat}{D i:MD}{one:ByteArray}{k fl c d:Int}{w w' j:World}(h:BlN F B db D one k fl w w')(g:BlN F B db i one c d w' j):BlN F B db i one c d w j :=
 ⟨g.1,λb hb=>(g.2.1 b hb).trans (h.2.1 b hb),h.2.2.trans g.2.2⟩
theorem BlS.lt{F:Nat->Prop}{B db:Nat}{D:MD}{one:ByteArray}{d fl:Int}{w:World}(h:BlS F B db D one d fl w):db<w.heap.size/\B<=db/\∀b,F b->b<w.heap.size:=by
 obtain⟨R,sv,c,g⟩:=h;exact⟨c.lt,c.low,λb hb=>(g b hb).2.1⟩
theorem BlS.kept{F:Nat->Prop}{B db:Nat}{D:MD}{one:ByteArray}{i fl:Int}{w w':World}(h:BlS F B db D one i fl w)(hb:Below w.heap.size w w'):BlS F B db D one i fl w':=by
 obtain⟨R,sv,c,d⟩:=h;exact⟨R,sv,⟨(hb.block _ c.lt).trans c.blk,c.own.kept (Ag hb none) (by simp),c.low⟩,λb g=>⟨(d b g).1,Nat.lt_of_lt_of_le (d b g).2.1 hb.size,(d b g).2.2⟩⟩
def LX(f:ByteArray)(w:World)(h:BlS F B db D one g fl w)(p:B<=w.heap.size)(hn:D.n<=100000):
  Calls prog 111 #[.pointer (some (Ad db 0)),.string f] w (λr w'=>r=.returned (.int .i64 (D.n:Int))/\BlN F B db (D.state f) one g fl w w'):=by
 obtain⟨R,sv,l,c⟩:=h;refine(Rw f w l p hn).mono λr w' j=>⟨j.1,?_⟩;obtain⟨⟨k,d,m,i⟩,o⟩:=j.2;exact⟨⟨k,d,m,λb hb=>⟨(c b hb).1,(i b (c b hb).1 (c b hb).2).1⟩⟩,λb hb=>(i b (c b hb).1 (c b hb).2).2,o⟩
def Rl{q:Nat}(a b t:Int)(x:ByteArray)(w:World)(h:BlS F B db D one g fl w)(d:0<=g)(i:g<=100000)(z:B<=w.heap.size)(A:q<D.n)(hn:D.n<=100000)(j:D.na q<=100000):
  Calls prog 112 #[.pointer (some (Ad db 0)),.int .i64 (q:Int),.agg #[.int .i64 a,.int .i64 b,.string x,.int .i64 t]] w (λr w'=>r=.returned (.tuple #[])/\BlN F B db (D.arc q a b x t) one (g+1) fl w w'):=by
 obtain⟨R,sv,p,c⟩:=h;refine(Rm a b t x w p d i z A hn j).mono λr w' m=>⟨m.1,?_⟩;obtain⟨⟨o,k,s,l⟩,u⟩:=m.2;exact⟨⟨o,k,s,λb hb=>⟨(c b hb).1,(l b (c b hb).1 (c b hb).2).1⟩⟩,λb hb=>(l b (c b hb).1 (c b hb).2).2,u⟩
def Rv(k:Int)(w:World):Calls prog 110 #[.int .i64 k] w (λr w'=>∃db,r=.returned (.pointer (some (Ad db 0)))/\BlS (λ_=>False) w.heap.size db (AU k 0 (oneF k)) (oneF k) 0 0 w'/\Below w.heap.size w w'/\w.heap.size<=db):=by
 go_enter func110,ntmps110
 go_wp2_with fail
 refine(Gq k w).mono ?_;rintro r j⟨rfl,c⟩;have d:=c.alloc c.size (.cells (bcs (AU k 0 (oneF k)) (.slice none 0 0) (oneF k) 0 0) 144);have i:=c.size;have g:BlS (λ_=>False) w.heap.size j.heap.size (AU k 0 (oneF k)) (oneF k) 0 0 (j.alloc (.cells (bcs (AU k 0 (oneF k)) (.slice none 0 0) (oneF k) 0 0) 144)) :=
  ⟨λ_=>.slice none 0 0,.slice none 0 0,⟨han j _,OwM.empty _ _ _ _ _ _,i⟩,λ_ h=>h.elim⟩
 replace d:=qh d;clear c;replace g:=qh g;go_wp2;go_ret;exact⟨_,rfl,g.o,d.o,i⟩
def BlN.refl{c:Int}{w:World}(h:BlS F B db D one c fl w):BlN F B db D one c fl w w:=⟨h,λ_ _=>rfl,blr⟩
end
section
open Go.RowKit Go.Deep
variable{F:Nat->Prop}{B db:Nat}{D:MD}{one:ByteArray}{d fl:Int}{w:World}
def dnOk(fl:Int)(n:Nat)(ac:Int):Prop:=fl=0/\n<=3000/\ac<=30000
def DnE(B:Nat)(D:MD)(ok:Prop)(w:World)(r:Ending)(w':World):Prop :=
 Below w.heap.size w w'/\((ok/\∃sv R,r=.returned (.tuple #[.agg #[.int .i64 D.kind,.int .i64 D.start,.string D.lead,sv],.int .i64 0])/\OwM w' B sv D R)\/(¬ok/\r=.returned (.tuple #[AQ,.int .i64 2])))
def Rp(w:World)(h:BlS F B db D one d fl w)(hn:D.n<=100000)(a1:d<=1000000)(L:0<=d):
  Calls prog 114 #[.pointer (some (Ad db 0))] w (DnE B D (dnOk fl D.n d) w):=by
 obtain⟨R,sv,j,Z⟩:=h;obtain⟨sa,sc,K,_,_⟩:=Az j.own.top;subst K;obtain⟨s,i⟩:=exq<|w.alloc (.cells #[.int .i64 0,.int .i64 0,.string ⟨#[]⟩,.slice none 0 0] 25);obtain⟨H,G⟩:=exq<|w.heap.size;have m:Fr (λ_=>False) w s:=by rw[i];exact Fr.alloc _ _
 have o:s.heap[H]?=some (.cells #[.int .i64 0,.int .i64 0,.string ⟨#[]⟩,.slice none 0 0] 25 (0,0)):=by rw[i,G];exact han w _
 have c:=(m.block _ j.lt (λe=>e)).trans j.blk;have l:Below w.heap.size w s:=m.below nlr (λ_ e=>e.elim);have E:OwM s B (.slice sa D.n sc) D R:=j.own.kept (Ag l none) (by simp);have a4:w.heap.size<=H:=by omega
 have a2:db≠H:=by have:=j.lt;omega
 have N:=BlkB.c0 c;have O:=BlkB.c1 c;have P:=BlkB.c2 c;have Q:=BlkB.c3 c;have S:=BlkB.c5 c;have T:=BlkB.c6 c;rw[i]at N O P Q S T;obtain⟨⟨r0,r1,r2,r3⟩,I⟩:=cells4 o;have U:=I 0;have W:=I 1;have X:=I 2;have Y:=I 3;clear I;rw[i,G]at r0 r1 r2 r3 U W X Y;have a5:((D.n:Nat):Int)<=100000:=by omega
 replace o:=qh o;replace l:=qh l;replace E:=qh E;replace j:=qh j;clear Z;replace c:=qh c;clear m;by_cases A:fl=0
 ·subst A;by_cases p:D.n<=3000;have C:decide ((3000:Int)<(D.n:Int))=false:=by simp;omega
  by_cases k:d<=30000
  ·have u:decide ((30000:Int)<d)=false:=by simp;omega
   have J:=qh<|show dnOk 0 D.n d from ⟨rfl,p,k⟩
   go_enter func114,ntmps114
   go_wp2_with fail
   exact bodyPost_ret (AG rfl _ (b:=w.heap.size) rfl rfl (han w _)) rfl ⟨(Below.refl _ w).alloc nlr _,.inl ⟨J.o,_,R,rfl,j.o.own.kept (z:=none) (World.grownBy_alloc _ _ _) (by simp)⟩⟩
  have u:(30000:Int)<d:=by omega
  have g:=qh<|show ¬dnOk 0 D.n d from λh=>k h.2.2;clear k
  rotate_left
  have C:(3000:Int)<(D.n:Int):=by omega
  have g:=qh<|show ¬dnOk 0 D.n d from λh=>p h.2.1;clear p
  all_goals
   go_enter func114,ntmps114
   go_wp2_with fail
   exact bodyPost_ret (AG rfl _ (b:=w.heap.size) rfl rfl (han w _)) rfl ⟨(Below.refl _ w).alloc nlr _,.inr ⟨g.o,rfl⟩⟩
 have g:=qh<|show ¬dnOk fl D.n d from λh=>A h.1
 go_enter func114,ntmps114
 go_wp2_with fail
 exact bodyPost_ret (AG rfl _ (b:=w.heap.size) rfl rfl (han w _)) rfl ⟨(Below.refl _ w).alloc nlr _,.inr ⟨g.o,rfl⟩⟩
def BlS.old(h:BlS F B db D one d fl w)(j:B<=w.heap.size):BlS (λb=>b<B) B db D one d fl w:=by
 obtain⟨R,sv,c,g⟩:=h;refine⟨R,sv,c,λb hb=>⟨by have:=c.low;omega,by omega,λe=>?_,λi hi e=>?_⟩⟩
 ·have:=(World.ownsRow.lt c.own.top b e).1;omega
 have:=(World.ownsRow.lt (c.own.row i hi) b e).1;omega
section
variable{w:World}{db:Nat}{D:MD}{sv:Value}{one:ByteArray}{ac fl:Int}{t:TypeId}(h:w.heap[db]?=some (.cells (bcs D sv one ac fl) t (0,0)))
include h
theorem BlkB.set2(s:ByteArray):(w.setCell (Ad db 2) (.string s)).heap[db]?=some (.cells (bcs { D with lead:=s } sv one ac fl) t (0,0)):=by
 unfold bcs at h ⊢;simp[World.setCell,Array.getElem?_modify,h]
end
theorem BlS.lead{j:Int}(h:BlS F B db D one j fl w)(s:ByteArray):BlS F B db { D with lead:=s } one j fl (w.setCell (Ad db 2) (.string s)):=by
 obtain⟨R,sv,c,d⟩:=h;have g:=c.own.other (p:=(Ad db 2)) (Ao c.own.top c.blk (by decide)) (λi hi=>Ao (c.own.row i hi) c.blk (by decide)) (.string s);exact⟨R,sv,⟨BlkB.set2 c.blk s,⟨g.top,g.row,g.apart⟩,c.low⟩,λb hb=>⟨(d b hb).1,by rw[nblk_setCell];exact(d b hb).2.1,(d b hb).2.2⟩⟩
theorem BlS.cells(h:BlS F B db D one d fl w):(∃v,w.cell? (Ad db 1)=some (.int .i64 v))/\w.cell? (Ad db 2)=some (.string D.lead)/\∀j,w.frozen? (Ad db j)=false:=by
 obtain⟨R,sv,c,g⟩:=h;exact⟨⟨_,BlkB.c1 c.blk⟩,BlkB.c2 c.blk,BlkB.fz c.blk⟩
end
section
open Go.RowKit Go.Deep
variable{D:MD}{i nf:Nat}{v:Value}
def anyA(D:MD)(i:Nat)(sel:Int->Int->Bool):Bool:=(List.range (D.na i)).any λd=>sel (D.ain i d) (D.aout i d)
def IS{sel:Int->Int->Bool}:anyA D i sel=true↔∃d,d<D.na i/\sel (D.ain i d) (D.aout i d)=true:=by simp[anyA]
theorem LG{sel:Int->Int->Bool}(h:∀d,d<D.na i->sel (D.ain i d) (D.aout i d)=false):anyA D i sel=false:=by
 cases g:anyA D i sel
 ·rfl
 obtain⟨d,j,c⟩:=IS.1 g;rw[h d j]at c;cases c
def TE{z:Array Value}{sel:Int->Int->Bool}{P:World->Prop}(w:World)(L:ArS none w v D i)(hn:D.na i<=30000)(ht:TstA nf z sel P)(H:∀wb,Below w.heap.size w wb->P wb):
  Calls prog 141 #[v,.func (.func nf) #[] z] w (λr w'=>Below w.heap.size w w'/\∃k:Int,r=.returned (.int .i64 k)/\(decide (0<=k)=anyA D i sel)):=by
 obtain⟨T,o⟩:=ht;obtain⟨n,l⟩:=exq<|D.na i;have hv:∃a g b c,v=.slice a n g/\n<=g/\g<=maxLen/\(0<n->a=some (Ad b c)/\b<w.heap.size)/\∀k,k<n->w.cell? (Ad b (c+k*4))=some (.int .i64 (D.ain i k))/\w.cell? (Ad b (c+k*4+1))=some (.int .i64 (D.aout i k))/\w.cell? (Ad b (c+k*4+2))=some (.string (D.aw i k))/\w.cell? (Ad b (c+k*4+3))=some (.int .i64 (D.ato i k)):=by
  rcases L with⟨Q,a,g,rfl,N⟩|⟨b,c,g,rfl,E,h2,R,S⟩
  ·exact⟨a,g,0,0,by rw[l,Q],by omega,N,by omega,λk X=>by omega⟩
  exact⟨_,g,b,c,by rw[l],by omega,R,λ_=>⟨rfl,E.1⟩,λk X=>S k (by omega)⟩
 obtain⟨a,g,b,c,rfl,N,Y,I,h⟩:=hv;unfold maxLen at Y;rw[<-l]at hn;replace l:=qh l;clear L;replace I:=qh I;replace h:=qh h;replace o:=qh o;replace H:=qh H
 go_enter func141,ntmps141
 go_wp2_with fail
 go_loopw [8] (λJ wr=>∃q:Nat,q<=n/\J=.int .i64 (q:Int)/\Below w.heap.size w wr/\∀j,j<q->sel (D.ain i j) (D.aout i j)=false) (λJ _=>n-(intOf J).toNat)
 case atStart=>exact⟨0,Nat.zero_le _,rfl,blr,λj W=>by omega⟩
 obtain⟨q,hq,rfl,hb,u⟩:=hrel;replace u:=qh u;replace hb:=qh hb;by_cases G:q<n
 ·have Z:(q:Int)<(n:Int):=by omega
  have O:(0:Int)<=(q:Int):=by omega
  obtain⟨rfl,s⟩:=I.o (by omega);obtain⟨t0,t1,t2,t3⟩:=h.o q G;have c0:=(hb.o.cell (p:=(Ad b (c+q*4))) s).trans t0;have c1:=(hb.o.cell (p:=(Ad b (c+q*4+1))) s).trans t1;have c2:=(hb.o.cell (p:=(Ad b (c+q*4+2))) s).trans t2;have c3:=(hb.o.cell (p:=(Ad b (c+q*4+3))) s).trans t3;clear t0 t1 t2 t3;have m:=o.o wr (H.o wr hb.o) (D.ain i q) (D.aout i q) (D.aw i q) (D.ato i q);have K:=qh m;clear m
  go_wp2_with fail
  clear c0 c1 c2 c3;refine K.o.mono ?_;rintro r w1⟨rfl,F⟩;have C:=qh<|hb.o.trans (F.mono hb.o.size);clear F K;cases B:sel (D.ain i q) (D.aout i q)
  ·replace B:=qh B;go_wp2;go_roundw
   case rel=>exact⟨q+1,by omega,by go_num,C.o,λj W=>by
    by_cases e:j=q
    ·subst e;exact B.o
    exact u.o j (by omega)⟩
   simp[intOf];omega
  replace B:=qh B;go_wp2;go_ret;refine⟨C.o,_,rfl,?_⟩;have E:anyA D i sel=true:=IS.2 ⟨q,by rw[<-l.o];exact G,B.o⟩;rw[E];simp
 have A:q=n:=by omega
 have U:¬((q:Int)<(n:Int)):=by omega
 replace A:=qh A;go_wp2;go_ret;refine⟨hb.o,_,rfl,?_⟩;have E:anyA D i sel=false:=LG λd hd=>u.o d (by rw[A.o,l.o];exact hd);rw[E];rfl
def Mk{c:Array Value}{sel:Int->Int->Bool}{P:World->Prop}(w:World)(g:ArS none w v D i)(hn:D.na i<=30000)(j:TstA nf c sel P)(h:∀wb,Below w.heap.size w wb->P wb):
  Calls prog 101 #[v,.func (.func nf) #[] c] w (λr w'=>r=.returned (.bool (anyA D i sel))/\Below w.heap.size w w'):=by
 have l:=qh<|TE w g hn j h;clear g hn j h
 go_enter func101,ntmps101
 go_wp2_with fail
 refine l.o.mono ?_;rintro r m⟨hb,k,rfl,d⟩;replace d:=qh d;replace hb:=qh hb;go_wp2;go_ret;exact⟨AI d.o,hb.o⟩
end
section
open Go.RowKit Go.Deep
structure WG(w0 wo w:World)(cb c8 xb yb:Nat)(D:MD)(sv stv xv yv:Value)(e:Nat):Prop where
 hb:Below w0.heap.size w0 w
 gs:wo.grownBy w (some cb)
 sc:Scl w cb D sv stv e
 k8:Bx w c8 114 (.pointer (some (Ad cb 0)))
 kx:Bx w xb 26 xv
 ky:Bx w yb 26 yv
 lc:w0.heap.size<=cb
 lo:w0.heap.size<=wo.heap.size
namespace WG
variable{w0 wo w w':World}{cb c8 xb yb:Nat}{D:MD}{sv stv xv yv:Value}{e:Nat}
end WG
end
section
open Go.RowKit Go.Deep

end
end Go.Proofs.YtpldocnhbdlgfaaGreatDoor
