/- Parts. -/
import Derived.Test.YtpldocnhbdlgfaaGreatDoorPb00
namespace Go.Proofs.YtpldocnhbdlgfaaGreatDoor
set_option maxRecDepth 100000
set_option linter.all false
set_option maxHeartbeats 16000000
open Go Tryz
section
variable{p q:Rat}{c:Bool}{j m:Nat}
def AO(l:List UInt8):Bool:=l.headD 0==45
def Al(l:List UInt8):List UInt8:=if AO l then l.tail else l
def hasS(l:List UInt8):Bool:=l.any (·==47)
def upTo(l:List UInt8):List UInt8:=l.takeWhile (· != 47)
def Bi(l:List UInt8):List UInt8:=(l.dropWhile (· != 47)).tail
def denL(l:List UInt8):List UInt8:=if hasS l then Bi l else [49]
def okP(neg:Bool)(n d:List UInt8)(frac:Bool):Bool :=
 As n&&As d&&decide (n.length<=400)&&decide (d.length<=400)&&!(neg&&(n==[48]))&&!(frac&&(d==[48]||d==[49]))&&decide (Nat.gcd (num n) (num d)=1)
def sg(neg:Bool)(m:Nat):Int:=if neg then -(m:Int) else (m:Int)
def prsL(l:List UInt8):Option Rat :=
 if okP (AO l) (upTo (Al l)) (denL (Al l)) (hasS (Al l)) then some (mkRat (sg (AO l) (num (upTo (Al l)))) (num (denL (Al l)))) else none
def prs(s:ByteArray):Option Rat:=prsL<|bts s
def fitQ(q:Rat):Prop:=(dec q.num.natAbs).length<=400/\(dec q.den).length<=400
instance (q:Rat):Decidable (fitQ q):=inferInstanceAs<|Decidable (_/\_)
def negQ(q:Rat):Bool:=decide<|q.num<0
def txtL(q:Rat):List UInt8:=(if negQ q then [45] else [])++(dec q.num.natAbs++(if q.den=1 then [] else 47::dec q.den))
def txt(q:Rat):ByteArray:=str<|txtL q
def limR(q:Rat):ByteArray × Nat:=if fitQ q then (txt q,0) else (str [],2)
theorem Ip(neg:Bool)(m:Nat):(sg neg m).natAbs=m:=by unfold sg;split<;>simp
def Xc{neg:Bool}:sg neg m=0↔m=0:=by unfold sg;split<;>omega
theorem Iq{neg:Bool}:sg neg m<0↔(neg=true/\m≠0):=by unfold sg;cases neg<;>simp<;>omega
theorem Eu(q:Rat):sg (negQ q) q.num.natAbs=q.num:=by unfold sg negQ;by_cases h:q.num<0<;>simp[h]<;>omega
def Uy{n:Int}{d:Nat}(hd:d≠0)(h:Nat.gcd n.natAbs d=1):(mkRat n d).num=n/\(mkRat n d).den=d:=by
 have:=Rat.mk_eq_mkRat n d hd h;rw[<-this];exact⟨rfl,rfl⟩
theorem CC:dec 0=[48]:=by rw[BA (by omega)];rfl
theorem Cb:dec 1=[49]:=by rw[BA (by omega)];rfl
def NS{neg:Bool}{n d:List UInt8}(h:okP neg n d c=true):
  As n=true/\As d=true/\n.length<=400/\d.length<=400/\(neg=true->n≠[48])/\(c=true->d≠[48]/\d≠[49])/\Nat.gcd (num n) (num d)=1:=by
 simp only[okP,Bool.and_eq_true,Bool.not_eq_true',decide_eq_true_eq]at h;obtain⟨⟨⟨⟨⟨⟨i,j⟩,k⟩,l⟩,m⟩,g⟩,o⟩:=h;refine⟨i,j,k,l,?_,?_,o⟩
 ·intro p e;subst p;subst e;simp at m
 intro hf;subst hf;simp at g;exact g
def Va{neg:Bool}{n d:List UInt8}(g:As n=true)(h:As d=true)(i:n.length<=400)(j:d.length<=400)
  (k:neg=true->n≠[48]) (l:c=true->d≠[48]/\d≠[49]) (m:Nat.gcd (num n) (num d)=1):okP neg n d c=true:=by
 simp only[okP,Bool.and_eq_true,Bool.not_eq_true',decide_eq_true_eq];refine⟨⟨⟨⟨⟨⟨g,h⟩,i⟩,j⟩,?_⟩,?_⟩,m⟩
 ·cases neg
  ·rfl
  have:=k rfl;simp[this]
 cases c
 ·rfl
 have:=l rfl;simp[this.1,this.2]
theorem NQ{l:List UInt8}(h:As l=true):num l=0↔l=[48]:=by
 constructor
 ·intro e;rw[<-BU h,e,CC]
 intro e;subst e;rfl
structure IsQ(q:Rat)(neg:Bool)(n d:List UInt8):Prop where
 sign:negQ q=neg
 top:dec q.num.natAbs=n
 bot:dec q.den=d
 topv:q.num.natAbs=num n
 botv:q.den=num d
 fit:fitQ q
def UZ{neg:Bool}{n d:List UInt8}(h:okP neg n d c=true)(s:c=false->d=[49]):IsQ (mkRat (sg neg (num n)) (num d)) neg n d:=by
 obtain⟨o,p,u,z,A,B,C⟩:=NS h;have hd:num d≠0:=by
  intro e;have g:=(NQ p).1 e;cases hf:c
  ·have:=s hf;rw[this]at g;simp at g
  exact(B hf).1 g
 obtain⟨k,i⟩:=Uy (n:=sg neg (num n)) hd (by rw[Ip];exact C);have j:(mkRat (sg neg (num n)) (num d)).num.natAbs=num n:=by rw[k,Ip]
 have l:dec (num n)=n:=BU o;have m:dec (num d)=d:=BU p;refine⟨?_,by rw[j,l],by rw[i,m],j,i,?_⟩
 ·unfold negQ;rw[k];cases neg
  ·simp[sg]
  have:num n≠0:=λe=>A rfl ((NQ o).1 e);simp[sg];omega
 unfold fitQ;rw[j,i,l,m];exact⟨u,z⟩
def Kk{l:List UInt8}(h:prsL l=some q):okP (AO l) (upTo (Al l)) (denL (Al l)) (hasS (Al l))=true/\IsQ q (AO l) (upTo (Al l)) (denL (Al l)):=by
 unfold prsL at h
 split at h
 ·rename_i c;have d:=Option.some.inj h;refine⟨c,?_⟩;rw[<-d];exact UZ c (λh=>by unfold denL;rw[h];rfl)
 exact absurd h (by simp)
def Wn(l:List UInt8):l=(if AO l then [45] else [])++Al l:=by
 unfold Al
 split
 ·rename_i h;cases l with
  |nil=>simp[AO]at h
  |cons a l=>simp[AO]at h;simp[h]
 simp
def EY(l:List UInt8)(h:hasS l=true):l=upTo l++47::Bi l:=by
 induction l with
 |nil=>simp[hasS]at h
 |cons a l ih =>
  by_cases c:a=47
  ·subst c;simp[upTo,Bi]
  have:hasS l=true:=by simpa [hasS,c] using h
  have i:=ih this;have d:upTo (a::l)=a::upTo l:=by simp[upTo,c]
  have g:Bi (a::l)=Bi l:=by simp[Bi,c]
  rw[d,g,List.cons_append,<-i]
theorem He(l:List UInt8)(h:hasS l=false):upTo l=l:=by
 induction l with
 |nil=>rfl
 |cons a l ih =>
  simp[hasS]at h;have c:upTo (a::l)=a::upTo l:=by simp[upTo,h.1]
  rw[c,ih (by simp[hasS];exact h.2)]
theorem Mr{l:List UInt8}(h:dgts l=true):∀c ∈ l,c≠47/\c≠45:=by
 intro c d;have:=List.all_eq_true.1 h c d;simp[dgt]at this
 constructor
 ·intro e;subst e;simp at this
 intro e;subst e;simp at this
def Ym{n r:List UInt8}(h:∀c ∈ n,c≠47):upTo (n++47::r)=n/\Bi (n++47::r)=r/\hasS (n++47::r)=true:=by
 induction n with
 |nil=>simp[upTo,Bi,hasS]
 |cons a n ih =>
  have d:=h a (by simp);obtain⟨i1,i,j⟩:=ih<|λc g=>h c (by simp[g]);refine⟨?_,?_,by simp[hasS]⟩
  ·rw[List.cons_append];show upTo (a::_)=_;have:upTo (a::(n++47::r))=a::upTo (n++47::r):=by simp[upTo,d]
   rw[this,i1]
  have:Bi (a::(n++47::r))=Bi (n++47::r):=by simp[Bi,d]
  rw[List.cons_append,this,i]
theorem noS{n:List UInt8}(h:∀c ∈ n,c≠47):hasS n=false:=by
 simp[hasS];exact h
def VL(h:fitQ q):prsL (txtL q)=some q:=by
 obtain⟨d,A⟩:=h;have v1:As (dec q.num.natAbs)=true:=Lj (by omega);have G:As (dec q.den)=true:=Lj (by omega);have i:∀c ∈ dec q.num.natAbs,c≠47:=λc C=>(Mr (CW _) c C).1;have B:∀R:List UInt8,AO ((if negQ q then [45] else [])++(dec q.num.natAbs++R))=negQ q/\Al ((if negQ q then [45] else [])++(dec q.num.natAbs++R))=dec q.num.natAbs++R:=by
  intro R;have:AO ((if negQ q then [45] else [])++(dec q.num.natAbs++R))=negQ q:=by
   cases j:negQ q
   ·have k:=EO q.num.natAbs;have d:=CW q.num.natAbs
    revert k d
    generalize dec q.num.natAbs=l;intro k d;cases l with
    |nil=>simp at k
    |cons a l=>have:=(Mr d a (by simp)).2;simp[AO,this]
   simp[AO]
  refine⟨this,?_⟩;unfold Al;rw[this];cases negQ q<;>simp
 have g:denL (dec q.num.natAbs++(if q.den=1 then [] else 47::dec q.den))=dec q.den/\upTo (dec q.num.natAbs++(if q.den=1 then [] else 47::dec q.den))=dec q.num.natAbs/\
   hasS (dec q.num.natAbs++(if q.den=1 then [] else 47::dec q.den))=decide (q.den≠1):=by
  by_cases j:q.den=1
  ·rw[ifp j,List.append_nil,j];have:=noS i;refine⟨by unfold denL;rw[this,Cb];rfl,He _ this,by rw[this];simp⟩
  rw[ifn j];obtain⟨i1,F,m⟩:=Ym (r:=dec q.den) i;exact⟨by unfold denL;rw[m,F];rfl,i1,by rw[m];simp[j]⟩
 obtain⟨u,z⟩:=B (if q.den=1 then [] else 47::dec q.den)
 obtain⟨o,p,s⟩:=g;have D:okP (negQ q) (dec q.num.natAbs) (dec q.den) (decide (q.den≠1))=true:=by
  refine Va v1 G d A ?_ ?_ ?_
  ·intro E e;have:q.num.natAbs=0:=CB<|e.trans CC.symm;simp[negQ]at E;omega
  ·intro hf;simp at hf;refine⟨λe=>?_,λe=>hf ?_⟩
   ·exact q.den_nz (CB (e.trans CC.symm))
   exact CB (e.trans Cb.symm)
  rw[CJ,CJ];exact q.reduced
 unfold prsL txtL;rw[u,z,o,p,s,ifp D,CJ,CJ,Eu,Rat.mkRat_self]
theorem Bj(h:fitQ q):prs (txt q)=some q:=by unfold prs txt;rw[AK];exact VL h
def Yd{l:List UInt8}(h:prsL l=some q):l=txtL q/\fitQ q:=by
 obtain⟨k,c⟩:=Kk h;refine⟨?_,c.fit⟩;have e:=Wn l;have g:=NS k;unfold txtL;rw[c.sign,c.top];have:Al l=upTo (Al l)++(if q.den=1 then [] else 47::dec q.den):=by
  cases d:hasS (Al l)
  ·have hd:denL (Al l)=[49]:=by unfold denL;rw[d];rfl
   have:q.den=1:=CB<|c.bot.trans (hd.trans Cb.symm);rw[ifp this,List.append_nil,He _ d]
  have hd:denL (Al l)=Bi (Al l):=by unfold denL;rw[d];rfl
  have:q.den≠1:=by
   intro j;have i:=c.bot;rw[j,Cb]at i;exact(g.2.2.2.2.2.1 d).2 i.symm
  rw[ifn this,c.bot,hd];exact EY _ d
 rw[<-this];exact e
def AS{s:ByteArray}(h:prs s=some q):s=txt q/\fitQ q:=by
 obtain⟨c,d⟩:=Yd h;exact⟨by unfold txt;rw[<-c,Ee],d⟩
def Yf(c:fitQ p)(d:fitQ q)(h:txt p=txt q):p=q:=by
 have:=Bj c;rw[h,Bj d]at this;exact(Option.some.inj this).symm
def szQ(k:Nat)(q:Rat):Prop:=q.num.natAbs<10 ^ k/\q.den<10 ^ k
theorem EU:fitQ q↔szQ 400 q:=by
 unfold fitQ szQ;rw[BK,BK];omega
def szQ.mono{k:Nat}(h:szQ j q)(c:j<=k):szQ k q :=
 ⟨Nat.lt_of_lt_of_le h.1 (Nat.pow_le_pow_right (by omega) c),Nat.lt_of_lt_of_le h.2 (Nat.pow_le_pow_right (by omega) c)⟩
def Ns{n:Int}{d:Nat}(hd:d≠0):(mkRat n d).num.natAbs<=n.natAbs/\(mkRat n d).den<=d:=by
 rw[Rat.num_mkRat,Rat.den_mkRat,ifn hd,ifn hd];exact⟨by rw[Int.natAbs_ediv_of_dvd];exact Nat.div_le_self _ _;exact Int.ofNat_dvd_left.2 (Nat.gcd_dvd_right _ _),Nat.div_le_self _ _⟩
def Ul{a b A B:Nat}(c:a<A)(d:b<B):a*b<A*B:=by
 rcases Nat.eq_zero_or_pos b with h|h
 ·subst h;rw[Nat.mul_zero];exact Nat.mul_pos (by omega) (by omega)
 exact Nat.lt_of_lt_of_le (Nat.mul_lt_mul_of_pos_right c h) (Nat.mul_le_mul_left _ (by omega))
def szQ.neg(c:szQ j p):szQ j (-p):=by
 refine⟨?_,?_⟩
 ·rw[Rat.neg_num,Int.natAbs_neg];exact c.1
 rw[Rat.neg_den];exact c.2
def Df(h:fitQ q):(txt q).size<=802:=by
 unfold txt;rw[AH];unfold txtL;obtain⟨c,d⟩:=h;simp only[List.length_append];have:(if negQ q then [45] else ([]:List UInt8)).length<=1:=by split<;>simp
 have:(if q.den=1 then [] else 47::dec q.den).length<=401:=by split<;>simp;omega
 omega
def Nb(q:Rat):(limR q).1.size<=802:=by
 unfold limR;split
 ·rename_i h;exact Df h
 rw[AH];simp
def CX(h:fitQ q):limR q=(txt q,0):=by unfold limR;rw[ifp h]
theorem Na(h:¬fitQ q):limR q=(str [],2):=by unfold limR;rw[ifn h]
def Ba(a b:ByteArray):ByteArray × Nat:=match prs a,prs b with|some x,some y=>limR (x+y)|_,_=>(str [],1)
def BZ(a b:ByteArray):ByteArray × Nat:=match prs a,prs b with|some x,some y=>limR (x-y)|_,_=>(str [],1)
def BQ(a b:ByteArray):ByteArray × Nat:=match prs a,prs b with|some x,some y=>limR (x*y)|_,_=>(str [],1)
def Bp(a b:ByteArray):ByteArray × Nat:=match prs a,prs b with|some x,some y=>if y=0 then (str [],4) else limR (x / y)|_,_=>(str [],1)
def cmpQ(x y:Rat):Int:=if x<y then -1 else if x=y then 0 else 1
def Bo(a b:ByteArray):Int:=match prs a,prs b with|some x,some y=>cmpQ x y|_,_=>0
def sumF(p:Bool)(a:Nat)(q:Bool)(b:Nat):Bool × Nat:=if p=q then (p,a+b) else if a<b then (q,b-a) else (p,a-b)
theorem KT(p:Bool)(a:Nat)(q:Bool)(b:Nat):sg (sumF p a q b).1 (sumF p a q b).2=sg p a+sg q b:=by
 unfold sumF sg;cases p<;>cases q<;>simp<;>(try split)<;>(try simp)<;>omega
def KS(p:Bool)(a:Nat)(q:Bool)(b:Nat):(sumF p a q b).2<=a+b:=by
 unfold sumF;split
 ·exact nlr
 split<;>simp<;>omega
theorem Pe(p q:Bool)(m n:Nat):sg p m*sg q n=sg (p != q) (m*n):=by
 unfold sg;cases p<;>cases q<;>simp[Int.neg_mul,Int.mul_neg]
theorem Xb(p:Bool)(m n:Nat):sg p m*(n:Int)=sg p (m*n):=by
 unfold sg;cases p<;>simp[Int.neg_mul]
theorem KH(p:Bool)(m:Nat):sg (!p) m=- sg p m:=by unfold sg;cases p<;>simp
theorem Fo(x:Rat)(d:Nat):x.num*(d:Int)=sg (negQ x) (x.num.natAbs*d):=by
 rw[<-Xb,Eu]
theorem LE(x y:Rat):x+y=mkRat (sg (sumF (negQ x) (x.num.natAbs*y.den) (negQ y) (y.num.natAbs*x.den)).1 (sumF (negQ x) (x.num.natAbs*y.den) (negQ y) (y.num.natAbs*x.den)).2) (x.den*y.den):=by
 rw[KT,<-Fo,<-Fo,Rat.add_def']
theorem Xx(x y:Rat):x-y=mkRat (sg (sumF (negQ x) (x.num.natAbs*y.den) (!negQ y) (y.num.natAbs*x.den)).1 (sumF (negQ x) (x.num.natAbs*y.den) (!negQ y) (y.num.natAbs*x.den)).2) (x.den*y.den):=by
 rw[KT,KH,<-Fo,<-Fo,Rat.sub_def',Int.sub_eq_add_neg]
theorem Nz(x y:Rat):x*y=mkRat (sg (negQ x != negQ y) (x.num.natAbs*y.num.natAbs)) (x.den*y.den):=by
 rw[<-Pe,Eu,Eu,Rat.mul_def']
theorem TP(y:Rat):y⁻¹=mkRat (sg (negQ y) y.den) y.num.natAbs:=by
 rw[Rat.inv_def];have h:=Eu y;unfold sg at h ⊢;cases c:negQ y
 ·rw[c]at h;simp at h;rw[<-h,Rat.divInt_ofNat];simp
 rw[c]at h;simp only[if_true]at h;rw[<-h,Rat.divInt_neg',Rat.divInt_ofNat];simp
def Mv(x y:Rat):x / y=mkRat (sg (negQ x != negQ y) (x.num.natAbs*y.den)) (x.den*y.num.natAbs):=by
 rw[Rat.div_def,TP,<-Pe,Eu]
 conv=>lhs;rw[<-Rat.mkRat_self x]
 rw[Rat.mkRat_mul_mkRat]
theorem Mi(x y:Rat):cmpQ x y=if (sumF (negQ x) (x.num.natAbs*y.den) (!negQ y) (y.num.natAbs*x.den)).2=0 then 0 else if (sumF (negQ x) (x.num.natAbs*y.den) (!negQ y) (y.num.natAbs*x.den)).1=true then -1 else 1:=by
 have h:=KT (negQ x) (x.num.natAbs*y.den) (!negQ y) (y.num.natAbs*x.den);rw[KH,<-Fo,<-Fo]at h;unfold cmpQ;have c:=Rat.lt_iff x y;have g:=Rat.eq_iff_mul_eq_mul (p:=x) (q:=y);generalize sumF (negQ x) (x.num.natAbs*y.den) (!negQ y) (y.num.natAbs*x.den)=r at h ⊢;obtain⟨s,k⟩:=r;simp only at h ⊢;by_cases d:k=0
 ·rw[ifp d];have:sg s k=0:=Xc.2 d;rw[ifn (by rw[c];omega),ifp (by rw[g];omega)]
 rw[ifn d];cases s
 ·have:0<sg false k:=by unfold sg;simp;omega
  rw[ifn (by rw[c];omega),ifn (by rw[g];omega)];rfl
 have:sg true k<0:=by unfold sg;simp;omega
 rw[ifp (by rw[c];omega)];rfl
def Nt(z:Int)(d:Nat)(hd:d≠0):(mkRat z d).num.natAbs=z.natAbs / Nat.gcd z.natAbs d/\(mkRat z d).den=d / Nat.gcd z.natAbs d/\negQ (mkRat z d)=decide (z<0):=by
 have c:=Rat.num_mkRat z d;have g:=Rat.den_mkRat z d;rw[ifn hd,Nat.gcd_comm]at c g;have h:(Nat.gcd z.natAbs d:Int) ∣ z:=Int.ofNat_dvd_left.2<|Nat.gcd_dvd_left _ _;have i:0<Nat.gcd z.natAbs d:=Nat.gcd_pos_of_pos_right _ (Nat.pos_of_ne_zero hd);refine⟨?_,g,?_⟩
 ·rw[c,Int.natAbs_ediv_of_dvd h,Int.natAbs_natCast]
 unfold negQ;rw[c];have:z / (Nat.gcd z.natAbs d:Int)<0↔z<0:=by
  rw[Int.ediv_lt_iff_lt_mul (by omega)];simp
 rw[decide_eq_decide];exact this
variable{k:Int}{s:ByteArray}{y:Rat}
inductive V where
 |inf|low|fin (q:Rat)
 deriving DecidableEq
def infS:ByteArray:=⟨#[105,110,102]⟩
def lowS:ByteArray:=⟨#[45,105,110,102]⟩
def okV(k:Int):V->Prop
 | .inf=>1<=k/\k<=3
 | .low=>k=1
 | .fin q=>k=1\/((k=2\/k=3)/\0<=q)
instance (k:Int) (v:V):Decidable (okV k v):=by cases v<;>unfold okV<;>infer_instance
def rdV(s:ByteArray):Option V:=if s=infS then some .inf else if s=lowS then some .low else (prs s).map .fin
def vprs(k:Int)(s:ByteArray):Option V:=(rdV s).filter λv=>decide (okV k v)
def vtxt:V->ByteArray
 | .inf=>infS
 | .low=>lowS
 | .fin q=>txt q
def fitV:V->Prop
 | .fin q=>fitQ q
 |_=>True
def limV:V->ByteArray × Nat
 | .fin q=>limR q
 |v=>(vtxt v,0)
def cmpV:V->V->Int
 | .inf,.inf=>0
 | .low,.low=>0
 | .low,_=>-1
 |_,.inf=>-1
 |_,.low=>1
 | .inf,_=>1
 | .fin x,.fin y=>cmpQ x y
def zeroV(k:Int):V:=if k=1 then .inf else .fin 0
def oneV(k:Int):V:=if k=1 then .fin 0 else .fin 1
def addV:V->V->V
 | .fin x,.fin y=>.fin (x+y)
 |_,_=>.inf
def Av(k:Int)(v w:V):V:=if k=2 then addV v w else if k=1 then (if 0<cmpV v w then w else v) else (if cmpV v w<0 then w else v)
def Ai(k:Int)(v w:V):V :=
 if v=zeroV k\/w=zeroV k then zeroV k else match v,w with
  | .inf,_=>.inf
  |_,.inf=>.inf
  | .low,_=>.low
  |_,.low=>.low
  | .fin x,.fin y=>if k=1 then .fin (x+y) else .fin (x*y)
def AA(k:Int)(v:V):V :=
 if k=1 then (if 0<=cmpV v (.fin 0) then .fin 0 else .low)
 else if k=3 then (if cmpV v (.fin 1)<=0 then .fin 1 else .inf)
 else match v with
  | .fin x=>if 0<=cmpQ x 1 then .inf else .fin (1 / (1-x))
  |_=>.inf
def wtV(k:Int):V->Prop
 | .fin q=>k=1\/((k=2\/k=3)/\0<q)
 |_=>False
instance (k:Int) (v:V):Decidable (wtV k v):=by cases v<;>unfold wtV<;>infer_instance
def Ek(k:Int)(v w:V):Int:=if k=1 then cmpV v w else cmpV w v
def argS:ByteArray × Nat:=(str [],1)
def Ak(k:Int)(a:ByteArray):Bool:=(vprs k a).isSome
def Am(k:Int)(a:ByteArray):Bool:=match rdV a with|some v=>decide (wtV k v)|none=>false
def Au(k:Int):Bool:=decide (1<=k)&&decide (k<=3)
def Aj(k:Int):ByteArray:=if Au k then vtxt (zeroV k) else str []
def oneF(k:Int):ByteArray:=if Au k then vtxt (oneV k) else str []
def Ar(k:Int)(a b:ByteArray):ByteArray × Nat:=match vprs k a,vprs k b with|some v,some w=>limV (Av k v w)|_,_=>argS
def Ae(k:Int)(a b:ByteArray):ByteArray × Nat:=match vprs k a,vprs k b with|some v,some w=>limV (Ai k v w)|_,_=>argS
def AN(k:Int)(a:ByteArray):ByteArray × Nat:=match vprs k a with|some v=>limV (AA k v)|none=>argS
def Vi(k:Int)(v w:V):Prop:=(v=zeroV k\/wtV k v)/\wtV k w
instance (k:Int) (v w:V):Decidable (Vi k v w):=inferInstanceAs<|Decidable (_/\_)
def Bm(k:Int)(a b:ByteArray):Int:=match vprs k a,vprs k b with|some v,some w=>Ek k v w|_,_=>0
theorem Ib:prs infS=none:=by decide +kernel
theorem Gh:prs lowS=none:=by decide +kernel
def If{v:V}(h:fitV v):rdV (vtxt v)=some v:=by
 cases v with
 |inf=>simp[rdV,vtxt]
 |low=>simp[rdV,vtxt,show lowS≠infS by decide]
 |fin q =>
  have c:=Bj h;have d:txt q≠infS:=by intro e;rw[e,Ib]at c;simp at c
  have g:txt q≠lowS:=by intro e;rw[e,Gh]at c;simp at c
  simp[rdV,vtxt,d,g,c]
theorem Fp{v:V}(h:rdV s=some v):s=vtxt v/\fitV v:=by
 unfold rdV at h
 split at h
 ·rename_i e;have:=Option.some.inj h;subst this;exact⟨e,trivial⟩
 split at h
 ·rename_i e;have:=Option.some.inj h;subst this;exact⟨e,trivial⟩
 cases c:prs s with
 |none=>rw[c]at h;simp at h
 |some q=>rw[c]at h;simp at h;subst h;exact AS c
def Dh{v:V}:vprs k s=some v↔rdV s=some v/\okV k v:=by
 unfold vprs;rw[Option.filter_eq_some_iff];simp
def Ln{v w:V}(c:fitV v)(d:fitV w)(h:vtxt v=vtxt w):v=w:=by
 have:=If c;rw[h,If d]at this;exact(Option.some.inj this).symm
def Qk{v:V}(h:fitV v)(c:okV k v):vprs k (vtxt v)=some v:=Dh.2 ⟨If h,c⟩
theorem Et{v:V}(h:fitV v):limV v=(vtxt v,0):=by cases v<;>first|rfl|exact CX h
def leV:V->V->Prop
 | .low,_=>True
 |_,.inf=>True
 | .fin x,.fin y=>x<=y
 |_,_=>False
def BJ(x y:Rat):(x<y/\cmpQ x y=-1)\/(x=y/\cmpQ x y=0)\/(y<x/\cmpQ x y=1):=by
 unfold cmpQ;by_cases c:x<y
 ·left;rw[ifp c];exact⟨c,rfl⟩
 by_cases d:x=y
 ·right;left;rw[ifn c,ifp d];exact⟨d,rfl⟩
 right;right;rw[ifn c,ifn d]
 refine⟨?_,rfl⟩;exact Rat.lt_of_le_of_ne (Rat.not_lt.1 c) (Ne.symm d)
theorem Cz(v w:V):cmpV v w<=0↔leV v w:=by
 cases v<;>cases w<;>simp[cmpV,leV]
 rename_i x y
 rcases BJ x y with⟨h,e⟩|⟨h,e⟩|⟨h,e⟩<;>rw[e]
 ·simp[Rat.le_of_lt h]
 ·subst h;simp
 simp;exact Rat.not_le.2 h
def EN(v w:V):cmpV v w=-1\/cmpV v w=0\/cmpV v w=1:=by
 cases v<;>cases w<;>simp[cmpV]
 rename_i x y
 rcases BJ x y with⟨h,e⟩|⟨h,e⟩|⟨h,e⟩<;>simp[e]
theorem GW(v w:V):cmpV v w=0↔v=w:=by
 cases v<;>cases w<;>simp[cmpV]
 rename_i x y
 rcases BJ x y with⟨h,e⟩|⟨h,e⟩|⟨h,e⟩<;>rw[e]
 ·simp;exact Rat.ne_of_lt h
 ·simp[h]
 simp;exact Rat.ne_of_gt h
def FD(v w:V):cmpV w v=- cmpV v w:=by
 cases v<;>cases w<;>simp[cmpV]
 rename_i x y
 rcases BJ x y with⟨h,e⟩|⟨h,e⟩|⟨h,e⟩<;>rcases BJ y x with⟨c,d⟩|⟨c,d⟩|⟨c,d⟩<;>rw[e,d]<;>try rfl
 ·exact absurd (Rat.le_of_lt c) (Rat.not_le.2 h)
 ·subst c;exact absurd h Rat.lt_irrefl
 ·subst h;exact absurd c Rat.lt_irrefl
 ·subst h;exact absurd c Rat.lt_irrefl
 ·subst c;exact absurd h Rat.lt_irrefl
 exact absurd (Rat.le_of_lt c) (Rat.not_le.2 h)
def EZ(v:V):leV v v:=by rw[<-Cz,(GW v v).2 rfl];omega
def Cf(v w:V):leV v w\/leV w v:=by rw[<-Cz,<-Cz,FD v w];omega
def FQ{v w:V}(d:leV v w)(c:leV w v):v=w:=by
 rw[<-Cz]at d c;rw[FD v w]at c;exact(GW v w).1 (by omega)
def Bu{u v w:V}(c:leV u v)(d:leV v w):leV u w:=by
 cases u<;>cases v<;>cases w<;>simp_all [leV]
 exact Rat.le_trans c d
noncomputable def minV(v w:V):V:=open Classical in if leV v w then v else w
noncomputable def maxV(v w:V):V:=open Classical in if leV w v then v else w
theorem Uu(v w:V):(if 0<cmpV v w then w else v)=minV v w:=by
 unfold minV;have:=Cz v w;by_cases h:leV v w
 ·rw[ifp h,if_neg];have:=this.2 h;omega
 rw[ifn h,if_pos];have:¬cmpV v w<=0:=λc=>h (this.1 c);omega
theorem Uq(v w:V):(if cmpV v w<0 then w else v)=maxV v w:=by
 unfold maxV;have:=Cz w v;rw[FD v w]at this;by_cases h:leV w v
 ·rw[ifp h,if_neg];have:=this.2 h;omega
 rw[ifn h,if_pos];have:¬-cmpV v w<=0:=λc=>h (this.1 c);omega
def Ch{v w:V}(h:leV v w):minV v w=v:=by unfold minV;rw[ifp h]
theorem Cg{v w:V}(h:leV w v):minV v w=w:=by
 unfold minV;by_cases c:leV v w
 ·rw[ifp c];exact FQ c h
 rw[ifn c]
theorem BX{v w:V}(h:leV v w):maxV v w=w:=by
 unfold maxV;by_cases c:leV w v
 ·rw[ifp c];exact FQ h c ▸ rfl
 rw[ifn c]
theorem BW{v w:V}(h:leV w v):maxV v w=v:=by unfold maxV;rw[ifp h]
theorem Nr(v w:V):minV v w=minV w v:=by
 rcases Cf v w with h|h
 ·rw[Ch h,Cg h]
 rw[Cg h,Ch h]
theorem Np(v w:V):maxV v w=maxV w v:=by
 rcases Cf v w with h|h
 ·rw[BX h,BW h]
 rw[BW h,BX h]
theorem Ut(u v w:V):minV (minV u v) w=minV u (minV v w):=by
 rcases Cf u v with c|c<;>rcases Cf v w with d|d
 ·rw[Ch c,Ch d,Ch c,Ch (Bu c d)]
 ·rw[Ch c,Cg d]
 ·rw[Cg c,Ch d,Cg c]
 rw[Cg c,Cg d,Cg (Bu d c)]
theorem Up(u v w:V):maxV (maxV u v) w=maxV u (maxV v w):=by
 rcases Cf u v with c|c<;>rcases Cf v w with d|d
 ·rw[BX c,BX d,BX (Bu c d)]
 ·rw[BX c,BW d,BX c]
 ·rw[BW c,BX d]
 rw[BW c,BW d,BW c,BW (Bu d c)]
theorem UA{f:V->V}(v w:V)(hf:∀x y,(x=v\/x=w)->(y=v\/y=w)->leV x y->leV (f x) (f y)):f (minV v w)=minV (f v) (f w):=by
 rcases Cf v w with h|h
 ·rw[Ch h,Ch (hf v w (.inl rfl) (.inr rfl) h)]
 rw[Cg h,Cg (hf w v (.inr rfl) (.inl rfl) h)]
theorem Uz{f:V->V}(v w:V)(hf:∀x y,(x=v\/x=w)->(y=v\/y=w)->leV x y->leV (f x) (f y)):f (maxV v w)=maxV (f v) (f w):=by
 rcases Cf v w with h|h
 ·rw[BX h,BX (hf v w (.inl rfl) (.inr rfl) h)]
 rw[BW h,BW (hf w v (.inr rfl) (.inl rfl) h)]
theorem Dd(v w:V):Av 1 v w=minV v w:=by unfold Av;rw[ifn (by decide),ifp rfl,Uu]
theorem BY(v w:V):Av 2 v w=addV v w:=by unfold Av;rw[ifp rfl]
theorem De(v w:V):Av 3 v w=maxV v w:=by unfold Av;rw[ifn (by decide),ifn (by decide),Uq]
theorem Da{v:V}(h:okV k v):k=1\/k=2\/k=3:=by
 cases v<;>simp only[okV]at h<;>omega
def AB{v:V}(h:okV k v)(c:k≠1):v≠.low:=by
 intro e;subst e;exact c h
def AF{v:V}(h:okV k v)(c:k≠1):v=.inf\/∃q,v=.fin q/\0<=q:=by
 cases v with
 |inf=>exact .inl rfl
 |low=>exact absurd h c
 |fin q=>right;refine⟨q,rfl,?_⟩;simp only[okV]at h;rcases h with h|h;exact absurd h c;exact h.2
def okV23'(c:k=2\/k=3){q:Rat}(h:0<=q):okV k (.fin q):=.inr ⟨c,h⟩
theorem times1(v w:V):Ai 1 v w=match v,w with
  | .inf,_=>.inf
  |_,.inf=>.inf
  | .low,_=>.low
  |_,.low=>.low
  | .fin x,.fin y=>.fin (x+y):=by
 unfold Ai zeroV;cases v<;>cases w<;>simp
def mulV(v w:V):V :=
 if v=.fin 0\/w=.fin 0 then .fin 0 else match v,w with
  | .fin x,.fin y=>.fin (x*y)
  |_,_=>.inf
def times23(c:k≠1){v w:V}(d:v≠.low)(g:w≠.low):Ai k v w=mulV v w:=by
 unfold Ai mulV zeroV;rw[ifn c];by_cases h:v=.fin 0\/w=.fin 0
 ·rw[ifp h,ifp h]
 rw[ifn h,ifn h];cases v<;>cases w<;>simp_all
theorem PH(v w:V):Ai 1 v w=Ai 1 w v:=by
 rw[times1,times1];cases v<;>cases w<;>simp;exact Rat.add_comm ..
def XJ(u v w:V):Ai 1 (Ai 1 u v) w=Ai 1 u (Ai 1 v w):=by
 simp only[times1];cases u<;>cases v<;>cases w<;>simp;exact Rat.add_assoc ..
def Lb(u:V){v w:V}(h:leV v w):leV (Ai 1 u v) (Ai 1 u w):=by
 simp only[times1];cases u<;>cases v<;>cases w<;>simp_all [leV]
 exact Rat.add_le_add_left.2 h
theorem UE(v w:V):mulV v w=mulV w v:=by
 unfold mulV;by_cases h:v=V.fin 0\/w=V.fin 0
 ·rw[ifp h,ifp h.symm]
 rw[ifn h,ifn (λe=>h e.symm)];cases v<;>cases w<;>simp;exact Rat.mul_comm ..
theorem CG(v:V):mulV v (.fin 0)=.fin 0:=by unfold mulV;simp
theorem Dj(v:V):mulV (.fin 0) v=.fin 0:=by unfold mulV;simp
theorem Bv(x y:Rat):mulV (.fin x) (.fin y)=.fin (x*y):=by
 unfold mulV;split
 ·rename_i h
  rcases h with h|h<;>(injection h with h;subst h;simp)
 rfl
theorem BH(h:y≠0):mulV .inf (.fin y)=.inf:=by unfold mulV;simp[h]
theorem Ci(h:y≠0):mulV (.fin y) .inf=.inf:=by unfold mulV;simp[h]
theorem Dz:mulV .inf .inf=.inf:=by unfold mulV;simp
def UD{u v w:V}(l:u≠.low)(k:v≠.low)(i:w≠.low):mulV (mulV u v) w=mulV u (mulV v w):=by
 by_cases c:u=.fin 0
 ·subst c;simp only[Dj]
 by_cases d:v=.fin 0
 ·subst d;simp only[Dj,CG]
 by_cases g:w=.fin 0
 ·subst g;simp only[CG]
 have inj:∀{x:Rat},V.fin x≠V.fin 0->x≠0:=λh e=>h (by rw[e]);cases u with
 |low=>exact absurd rfl l
 |inf =>
  cases v with
  |low=>exact absurd rfl k
  |inf=>cases w with
   |low=>exact absurd rfl i
   |inf=>rfl
   |fin z=>rw[Dz,BH (inj g),Dz]
  |fin y=>cases w with
   |low=>exact absurd rfl i
   |inf=>rw[BH (inj d),Ci (inj d)]
   |fin z =>
    rw[BH (inj d),BH (inj g),Bv,BH];intro e;rcases Rat.mul_eq_zero.1 e with e|e
    ·exact inj d e
    exact inj g e
 |fin x =>
  cases v with
  |low=>exact absurd rfl k
  |inf=>cases w with
   |low=>exact absurd rfl i
   |inf=>rw[Ci (inj c),Dz,Ci (inj c)]
   |fin z=>rw[Ci (inj c),BH (inj g),Ci (inj c)]
  |fin y =>
   have j:x*y≠0:=by
    intro e;rcases Rat.mul_eq_zero.1 e with e|e
    ·exact inj c e
    exact inj d e
   cases w with
   |low=>exact absurd rfl i
   |inf=>rw[Bv,Ci j,Ci (inj d),Ci (inj c)]
   |fin z=>rw[Bv,Bv,Bv,Bv,Rat.mul_assoc]
theorem JV{u v w:V}(l:u=.inf\/∃q,u=.fin q/\0<=q)(i:v=.inf\/∃q,v=.fin q/\0<=q)(j:w=.inf\/∃q,w=.fin q/\0<=q)(h:leV v w):leV (mulV u v) (mulV u w):=by
 rcases l with rfl|⟨x,rfl,m⟩
 ·rcases j with rfl|⟨z,rfl,o⟩
  ·rw[Dz];cases mulV .inf v<;>simp[leV]
  rcases i with rfl|⟨y,rfl,k⟩
  ·exact h.elim
  by_cases g:y=0
  ·subst g;rw[CG];by_cases c:z=0
   ·subst c;rw[CG];exact EZ _
   rw[BH c];trivial
  have c:z≠0:=by
   intro e;subst e;exact g<|Rat.le_antisymm h k
  rw[BH g,BH c];trivial
 by_cases d:x=0
 ·subst d;rw[Dj,Dj];exact EZ _
 rcases j with rfl|⟨z,rfl,o⟩
 ·rw[Ci d];cases mulV (.fin x) v<;>simp[leV]
 rcases i with rfl|⟨y,rfl,k⟩
 ·exact h.elim
 rw[Bv,Bv];exact Rat.mul_le_mul_of_nonneg_left h m
theorem QP(v w:V):addV v w=addV w v:=by cases v<;>cases w<;>simp[addV];exact Rat.add_comm ..
theorem QO(u v w:V):addV (addV u v) w=addV u (addV v w):=by cases u<;>cases v<;>cases w<;>simp[addV];exact Rat.add_assoc ..
def UC{u v w:V}(i:u=.inf\/∃q,u=.fin q/\0<=q)(k:v=.inf\/∃q,v=.fin q/\0<=q)(l:w=.inf\/∃q,w=.fin q/\0<=q):
  mulV u (addV v w)=addV (mulV u v) (mulV u w):=by
 rcases k with rfl|⟨y,rfl,m⟩
 ·by_cases d:u=.fin 0
  ·subst d;rw[Dj,Dj,Dj];simp[addV,Rat.add_zero]
  have:mulV u .inf=.inf:=by
   rcases i with rfl|⟨x,rfl,_⟩
   ·exact Dz
   exact Ci (λe=>d (by rw[e]))
  have h:addV .inf w=.inf:=by cases w<;>rfl
  rw[h,this];cases mulV u w<;>rfl
 rcases l with rfl|⟨z,rfl,o⟩
 ·by_cases d:u=.fin 0
  ·subst d;rw[Dj,Dj,Dj];simp[addV,Rat.add_zero]
  have:mulV u .inf=.inf:=by
   rcases i with rfl|⟨x,rfl,_⟩
   ·exact Dz
   exact Ci (λe=>d (by rw[e]))
  have h:addV (.fin y) .inf=.inf:=rfl;rw[h,this];cases mulV u (.fin y)<;>rfl
 rcases i with rfl|⟨x,rfl,p⟩
 ·simp only[addV];by_cases c:y=0
  ·subst c;rw[CG,Rat.zero_add];by_cases g:z=0
   ·subst g;rw[CG];simp[Rat.add_zero]
   rw[BH g]
  have:y+z≠0:=by
   intro e;have j:y<=0:=by
    have:y+0<=y+z:=Rat.add_le_add_left.2 o;rw[e,Rat.add_zero]at this;exact this
   exact c (Rat.le_antisymm j m)
  rw[BH c,BH this]
 simp only[addV];rw[Bv,Bv,Bv,Rat.mul_add]
variable{u v w:V}{a:ByteArray}
def szV(k:Nat):V->Prop
 | .fin q=>szQ k q
 |_=>True
def szV.fit{k:Nat}(h:szV k v)(c:k<=400):fitV v:=by
 cases v<;>first|trivial|exact EU.2 (szQ.mono h c)
def PE{k:Nat}(c:1<=k):szQ k 0:=by
 have:1<10 ^ k:=Nat.one_lt_pow (by omega) (by omega);exact⟨by show (0:Int).natAbs<_;simp;omega,by show 1<_;exact this⟩
def XE{k:Nat}(c:1<=k):szQ k 1:=by
 have:1<10 ^ k:=Nat.one_lt_pow (by omega) (by omega);exact⟨by show (1:Int).natAbs<_;simpa using this,by show 1<_;exact this⟩
def XG(kd:Int){k:Nat}(c:1<=k):szV k (zeroV kd):=by unfold zeroV;split;trivial;exact PE c
def XF(kd:Int){k:Nat}(c:1<=k):szV k (oneV kd):=by unfold oneV;split;exact PE c;exact XE c
def Vb(c:k=1\/k=2\/k=3):okV k (zeroV k):=by
 unfold zeroV;split
 ·rename_i h;subst h;exact⟨by omega,by omega⟩
 right;exact⟨by omega,Rat.le_refl⟩
def NV(c:k=1\/k=2\/k=3):okV k (oneV k):=by
 unfold oneV;split
 ·rename_i h;exact .inl h
 right;exact⟨by omega,by decide⟩
def DC(c:k=1\/k=2\/k=3):okV k .inf:=⟨by omega,by omega⟩
def Ga(d:okV k v)(g:okV k w):okV k (Av k v w):=by
 have c:=Da d;unfold Av
 split
 ·rename_i j
  rcases AF d (by omega) with rfl|⟨x,rfl,h⟩
  ·exact DC c
  rcases AF g (by omega) with rfl|⟨y,rfl,i⟩
  ·exact DC c
  exact .inr ⟨by omega,Rat.add_nonneg h i⟩
 split<;>split<;>assumption
def Fi(d:okV k v)(h:okV k w):okV k (Ai k v w):=by
 have g:=Da d;by_cases c:k=1
 ·subst c;rw[times1];cases v<;>cases w<;>simp[okV]
 rw[times23 c (AB d c) (AB h c)];unfold mulV
 split
 ·exact .inr ⟨by omega,Rat.le_refl⟩
 rcases AF d c with rfl|⟨x,rfl,i⟩
 ·exact DC g
 rcases AF h c with rfl|⟨y,rfl,j⟩
 ·exact DC g
 exact .inr ⟨by omega,Rat.mul_nonneg i j⟩
def Ob(c:okV k v):Av k v w=Av k w v:=by
 rcases Da c with rfl|rfl|rfl
 ·rw[Dd,Dd,Nr]
 ·rw[BY,BY,QP]
 rw[De,De,Np]
theorem Kh(c:okV k v):Av k (Av k u v) w=Av k u (Av k v w):=by
 rcases Da c with rfl|rfl|rfl
 ·simp only[Dd];rw[Ut]
 ·simp only[BY];rw[QO]
 simp only[De];rw[Up]
theorem PL(d:okV k v)(g:okV k w):Ai k v w=Ai k w v:=by
 by_cases c:k=1
 ·subst c;exact PH v w
 rw[times23 c (AB d c) (AB g c),times23 c (AB g c) (AB d c),UE]
theorem XN(g:okV k u)(d:okV k v)(h:okV k w):Ai k (Ai k u v) w=Ai k u (Ai k v w):=by
 by_cases c:k=1
 ·subst c;exact XJ u v w
 rw[times23 c (AB (Fi g d) c) (AB h c),times23 c (AB g c) (AB (Fi d h) c),times23 c (AB g c) (AB d c),times23 c (AB d c) (AB h c)];exact UD (AB g c) (AB d c) (AB h c)
def XP(d:okV k u)(g:okV k v)(i:okV k w)(h:leV v w):leV (Ai k u v) (Ai k u w):=by
 by_cases c:k=1
 ·subst c;exact Lb u h
 rw[times23 c (AB d c) (AB g c),times23 c (AB d c) (AB i c)];exact JV (AF d c) (AF g c) (AF i c) h
def XQ(d:okV k u)(g:okV k v)(i:okV k w):Ai k u (Av k v w)=Av k (Ai k u v) (Ai k u w):=by
 have j:∀x y,(x=v\/x=w)->(y=v\/y=w)->leV x y->leV (Ai k u x) (Ai k u y):=by
  intro x y l m h;refine XP d ?_ ?_ h
  ·rcases l with rfl|rfl<;>assumption
  rcases m with rfl|rfl<;>assumption
 rcases Da d with rfl|rfl|rfl
 ·rw[Dd,Dd];exact UA (f:=Ai 1 u) v w j
 ·have c:(2:Int)≠1:=by decide
  rw[times23 c (AB d c) (AB (Ga g i) c),times23 c (AB d c) (AB g c),times23 c (AB d c) (AB i c),BY,BY];exact UC (AF d c) (AF g c) (AF i c)
 rw[De,De];exact Uz (f:=Ai 3 u) v w j
def VJ(c:okV k v):Av k v (zeroV k)=v:=by
 rcases Da c with rfl|rfl|rfl
 ·rw[Dd];exact Ch (by cases v<;>trivial)
 ·rw[BY];show addV v (.fin 0)=v
  rcases AF c (by decide) with rfl|⟨x,rfl,d⟩
  ·rfl
  simp[addV,Rat.add_zero]
 rw[De];show maxV v (.fin 0)=v
 rcases AF c (by decide) with rfl|⟨x,rfl,d⟩
 ·exact BW trivial
 exact BW d
def IA(d:okV k v):Ai k v (oneV k)=v:=by
 by_cases c:k=1
 ·subst c;rw[times1];cases v<;>simp[oneV,Rat.add_zero]
 rw[times23 c (AB d c) (by simp[oneV,c])];have:oneV k=.fin 1:=by simp[oneV,c]
 rw[this]
 rcases AF d c with rfl|⟨x,rfl,g⟩
 ·exact BH (by decide)
 rw[Bv,Rat.mul_one]
theorem XR(k:Int)(v:V):Ai k v (zeroV k)=zeroV k:=by unfold Ai;rw[ifp (.inr rfl)]
theorem XK{b:ByteArray}(c:vprs k a=some v)(hb:vprs k b=some w)(h:fitV (Ai k v w)):Ae k a b=(vtxt (Ai k v w),0):=by
 unfold Ae;rw[c,hb];exact Et h
def YS(c:k=1\/k=2\/k=3):Aj k=vtxt (zeroV k):=by
 have:Au k=true:=by unfold Au;rcases c with rfl|rfl|rfl<;>rfl
 unfold Aj;rw[this];rfl
def Ve(c:k=1\/k=2\/k=3):oneF k=vtxt (oneV k):=by
 have:Au k=true:=by unfold Au;rcases c with rfl|rfl|rfl<;>rfl
 unfold oneF;rw[this];rfl
def Qf(h:Ak k a=true):∃v,vprs k a=some v:=by
 unfold Ak at h;exact Option.isSome_iff_exists.1 h
def Iv(i:okV k v):okV k (AA k v)/\Av k (oneV k) (Ai k v (AA k v))=AA k v:=by
 rcases Da i with rfl|rfl|rfl
 ·have j:oneV 1=.fin 0:=rfl;rw[j,Dd];have d:AA 1 v=if 0<=cmpV v (.fin 0) then .fin 0 else .low:=rfl
  rw[d]
  split
  ·rename_i h;refine⟨.inl rfl,?_⟩;have l:Ai 1 v (.fin 0)=v:=IA (k:=1) i;rw[l];have:=FD v (.fin 0);exact Ch<|(Cz _ _).1 (by omega)
  rename_i h;refine⟨rfl,?_⟩;have:Ai 1 v .low=.low:=by
   rw[times1];cases v with
   |inf=>simp[cmpV]at h
   |low=>rfl
   |fin q=>rfl
  rw[this];exact Cg trivial
 ·have c:(2:Int)≠1:=by decide
  have j:oneV 2=.fin 1:=rfl;rw[j,BY]
  rcases AF i c with rfl|⟨x,rfl,u⟩
  ·have d:AA 2 .inf=.inf:=rfl;rw[d,times23 c (by simp) (by simp),Dz];exact⟨DC (.inr (.inl rfl)),rfl⟩
  have d:AA 2 (.fin x)=if 0<=cmpQ x 1 then .inf else .fin (1 / (1-x)):=rfl
  rw[d]
  split
  ·rename_i h;refine⟨DC (.inr (.inl rfl)),?_⟩;have g:x≠0:=by intro e;subst e;exact absurd h (by decide +kernel)
   rw[times23 c (by simp) (by simp),Ci g];rfl
  rename_i h;have p:x<1:=by rcases BJ x 1 with⟨m,e⟩|⟨m,e⟩|⟨m,e⟩<;>first|exact m|(rw[e]at h;exact absurd h (by decide))
  have hd:0<1-x:=(Rat.lt_iff_sub_pos x 1).1 p;have o:1-x≠0:=Rat.ne_of_gt hd;refine⟨.inr ⟨.inl rfl,?_⟩,?_⟩
  ·rw[Rat.div_def,Rat.one_mul];exact Rat.le_of_lt<|Rat.inv_pos.2 hd
  rw[times23 c (by simp) (by simp),Bv];show V.fin (1+x*(1 / (1-x)))=V.fin (1 / (1-x))
  congr 1
  rw[Rat.div_def,Rat.one_mul];have hi:=Rat.mul_inv_cancel (1-x) o;have s:(1-x)*(1-x)⁻¹+x*(1-x)⁻¹=(1-x)⁻¹:=by
   rw[<-Rat.add_mul,Rat.sub_add_cancel,Rat.one_mul]
  rw[hi]at s;exact s
 have c:(3:Int)≠1:=by decide
 have j:oneV 3=.fin 1:=rfl;rw[j,De];have d:AA 3 v=if cmpV v (.fin 1)<=0 then .fin 1 else .inf:=rfl
 rw[d]
 split
 ·rename_i h;refine⟨.inr ⟨.inr rfl,by decide⟩,?_⟩;have l:Ai 3 v (.fin 1)=v:=IA (k:=3) i;rw[l];exact BW<|(Cz _ _).1 h
 rename_i h;refine⟨DC (.inr (.inr rfl)),?_⟩;rw[times23 c (AB i c) (by simp)]
 rcases AF i c with rfl|⟨x,rfl,u⟩
 ·rw[Dz];exact BX trivial
 have g:x≠0:=by intro e;subst e;exact absurd h (by decide +kernel)
 rw[Ci g];exact BX trivial
structure Order(k:Int)(a b c s x y:ByteArray)(p:Int):Prop where
 pe:Bm k a b=p
 lo:-1<=p
 hi:p<=1
 sw:Bm k b a=-p
 eq:p=0↔a=b
 tr:p<=0->Bm k b c<=0->Bm k a c<=0
 se:Ar k a b=(s,0)
 s1:k≠2->p<=0->s=a
 s2:k≠2->0<p->s=b
 xe:Ae k a c=(x,0)
 ye:Ae k b c=(y,0)
 xy:p<=0->Bm k x y<=0
def YN(h:wtV k v):∃q,v=.fin q/\(k=1\/((k=2\/k=3)/\0<q)):=by cases v<;>first|exact h.elim|exact⟨_,rfl,h⟩
def YP(h:wtV k v):okV k v:=by
 obtain⟨q,rfl,h⟩:=YN h
 rcases h with h|⟨h,c⟩
 ·exact .inl h
 exact .inr ⟨h,Rat.le_of_lt c⟩
def YD(h:Am k a=true):∃v,rdV a=some v/\wtV k v:=by
 unfold Am at h;cases c:rdV a with
 |none=>rw[c]at h;simp at h
 |some v=>rw[c]at h;exact⟨v,rfl,of_decide_eq_true h⟩
end
section
variable{n p:Nat}
class CSR (R:Type) where
 add:R->R->R
 mul:R->R->R
 zero:R
 one:R
 star:R->R
 add_comm:∀a b,add a b=add b a
 add_assoc:∀a b c,add (add a b) c=add a (add b c)
 add_zero:∀a,add a zero=a
 mul_comm:∀a b,mul a b=mul b a
 mul_assoc:∀a b c,mul (mul a b) c=mul a (mul b c)
 mul_one:∀a,mul a one=a
 mul_zero:∀a,mul a zero=zero
 mul_add:∀a b c,mul a (add b c)=add (mul a b) (mul a c)
 star_eq:∀a,star a=add one (mul a (star a))
 park:∀a b x c,x=add (add (mul a x) b) c->∃d,x=add (mul (star a) b) d
 anti:∀a b c d,b=add a c->a=add b d->a=b
namespace CSR
section
variable{R:Type}[CSR R]
instance instAdd:Add R:=⟨add⟩
instance instMul:Mul R:=⟨mul⟩
theorem aC(a b:R):a+b=b+a:=add_comm a b
theorem aA(a b c:R):a+b+c=a+(b+c):=add_assoc a b c
theorem aL(a b c:R):a+(b+c)=b+(a+c):=by rw[<-aA,aC a b,aA]
theorem a0(a:R):a+zero=a:=add_zero a
theorem z0(a:R):zero+a=a:=by rw[aC,a0]
theorem mC(a b:R):a*b=b*a:=mul_comm a b
theorem mA(a b c:R):a*b*c=a*(b*c):=mul_assoc a b c
theorem m1(a:R):a*one=a:=mul_one a
theorem o1(a:R):one*a=a:=by rw[mC,m1]
theorem m0(a:R):a*zero=zero:=mul_zero a
theorem zm(a:R):zero*a=zero:=by rw[mC,m0]
theorem mD(a b c:R):a*(b+c)=a*b+a*c:=mul_add a b c
theorem dM(a b c:R):(a+b)*c=a*c+b*c:=by rw[mC,mD,mC c a,mC c b]
theorem sE(a:R):star a=one+a*star a:=star_eq a
def le(a b:R):Prop:=∃c,b=a+c
theorem le_refl(a:R):le a a:=⟨zero,(a0 a).symm⟩
theorem le_add(a b:R):le a (a+b):=⟨b,rfl⟩
theorem le_trans{a b c:R}(h:le a b)(k:le b c):le a c:=by
 obtain⟨x,rfl⟩:=h;obtain⟨y,rfl⟩:=k;exact⟨x+y,aA ..⟩
theorem le_plus{a b c d:R}(h:le a b)(k:le c d):le (a+c) (b+d):=by
 obtain⟨x,rfl⟩:=h;obtain⟨y,rfl⟩:=k;exact⟨x+y,by rw[aA,aA,aL x c y]⟩
theorem le_times{a b:R}(c:R)(h:le a b):le (c*a) (c*b):=by
 obtain⟨x,rfl⟩:=h;exact⟨c*x,mD ..⟩
theorem le_anti{a b:R}(h:le a b)(k:le b a):a=b:=by
 obtain⟨x,c⟩:=h;obtain⟨y,d⟩:=k;exact anti a b x y c d
def sum(f:Nat->R):Nat->R
 |0=>zero
 |n+1=>sum f n+f n
theorem sum_congr{f g:Nat->R}(h:∀i,i<n->f i=g i):sum f n=sum g n:=by
 induction n with
 |zero=>rfl
 |succ n ih=>simp only[sum];rw[ih (λi hi=>h i (by omega)),h n (by omega)]
theorem sum_zero(n:Nat):sum (λ_=>(zero:R)) n=zero:=by
 induction n with
 |zero=>rfl
 |succ n ih=>simp only[sum];rw[ih,a0]
theorem sum_add(f g:Nat->R)(n:Nat):sum (λi=>f i+g i) n=sum f n+sum g n:=by
 induction n with
 |zero=>exact(a0 _).symm
 |succ n ih=>simp only[sum];rw[ih,aA,aA,aL (sum g n)]
theorem mul_sum(a:R)(f:Nat->R)(n:Nat):a*sum f n=sum (λi=>a*f i) n:=by
 induction n with
 |zero=>exact m0 a
 |succ n ih=>simp only[sum];rw[mD,ih]
theorem sum_mul(a:R)(f:Nat->R)(n:Nat):sum f n*a=sum (λi=>f i*a) n:=by
 rw[mC,mul_sum];exact sum_congr λi _=>mC _ _
theorem sum_pick(f:Nat->R)(c:p<n):sum f n=f p+sum (λi=>if i=p then zero else f i) n:=by
 induction n with
 |zero=>omega
 |succ n ih =>
  simp only[sum];by_cases e:p=n
  ·subst e;rw[ifp rfl,a0,sum_congr (g:=λi=>if i=p then zero else f i) (λi hi=>by rw[ifn (by omega)]),aC]
  rw[ifn (by omega),ih (by omega),aA]
theorem sum_single(f:Nat->R)(c:p<n)(h:∀i,i<n->i≠p->f i=zero):sum f n=f p:=by
 rw[sum_pick f c,sum_congr (g:=λ_=>zero) (λi hi=>by split;rfl;exact h i hi (by assumption)),sum_zero,a0]
theorem sum_le{f g:Nat->R}(h:∀i,i<n->le (f i) (g i)):le (sum f n) (sum g n):=by
 induction n with
 |zero=>exact le_refl _
 |succ n ih=>exact le_plus (ih λi hi=>h i (by omega)) (h n (by omega))
def elim(p:Nat)(M:Nat->Nat->R):Nat->Nat->R:=λi j=>M i j+M i p*star (M p p)*M p j
def elims(M:Nat->Nat->R):Nat->Nat->Nat->R
 |0=>M
 |p+1=>elim p (elims M p)
def eye(i j:Nat):R:=if i=j then one else zero
def starM(M:Nat->Nat->R)(n:Nat):Nat->Nat->R:=λi j=>elims M n i j+eye i j
theorem elims_first(M:Nat->Nat->R)(p i j:Nat):elims M p i j=M i j+sum (λk=>M i k*elims M p k j) p:=by
 induction p generalizing j with
 |zero=>exact(a0 _).symm
 |succ p ih =>
  have c:=ih;generalize hNN:elims M p=N at c;have h:elims M (p+1)=elim p N:=by rw[<-hNN];rfl
  rw[h];simp only[sum];have d:sum (λk=>M i k*elim p N k j) p=sum (λk=>M i k*N k j) p+sum (λk=>M i k*N k p) p*(star (N p p)*N p j):=by
   rw[sum_mul,<-sum_add];refine sum_congr λk _=>?_;show M i k*(N k j+N k p*star (N p p)*N p j)=_;rw[mD,mA,mA]
  have g:M i p*elim p N p j=M i p*(star (N p p)*N p j):=by
   show M i p*(N p j+N p p*star (N p p)*N p j)=_
   congr 1
   conv=>rhs;rw[sE (N p p)]
   rw[dM,o1]
  rw[d,g];show N i j+N i p*star (N p p)*N p j=_;rw[aA,<-dM,<-aA,aC (sum _ _) (M i p),<-c j,<-c p,mA]
theorem starM_left(M:Nat->Nat->R){i j:Nat}(c:j<n):starM M n i j=eye i j+sum (λk=>M i k*starM M n k j) n:=by
 have h:sum (λk=>M i k*starM M n k j) n=sum (λk=>M i k*elims M n k j) n+M i j:=by
  show sum (λk=>M i k*(elims M n k j+eye k j)) n=_;rw[sum_congr (g:=λk=>M i k*elims M n k j+M i k*eye k j) (λk _=>mD ..),sum_add]
  congr 1
  rw[sum_single _ c (λk _ d=>by show M i k*eye k j=_;rw[eye,ifn d,m0])];show M i j*eye j j=_;rw[eye,ifp rfl,m1]
 rw[h,aC (sum _ _),<-elims_first,aC];rfl
theorem elims_congr{M M':Nat->Nat->R}(h:∀i j,i<n->j<n->M i j=M' i j)(d:p<=n):∀i j,i<n->j<n->elims M p i j=elims M' p i j:=by
 induction p with
 |zero=>exact h
 |succ p ih =>
  intro i j hi c;show elim p _ i j=elim p _ i j;unfold elim;rw[ih (by omega) i j hi c,ih (by omega) i p hi (by omega),ih (by omega) p p (by omega) (by omega),ih (by omega) p j (by omega) c]
theorem starM_congr{M M':Nat->Nat->R}(h:∀i j,i<n->j<n->M i j=M' i j):∀i j,i<n->j<n->starM M n i j=starM M' n i j:=by
 intro i j hi c;unfold starM;rw[elims_congr h (Nat.le_refl n) i j hi c]
def sumFrom(f:Nat->R)(p n:Nat):R:=sum (λk=>if k<p then zero else f k) n
theorem sumFrom_zero(f:Nat->R)(n:Nat):sumFrom f 0 n=sum f n:=sum_congr λk _=>by rw[ifn (by omega)]
theorem sumFrom_end(f:Nat->R)(n:Nat):sumFrom f n n=zero:=by
 rw[sumFrom,sum_congr (g:=λ_=>zero) (λk c=>by rw[ifp c]),sum_zero]
theorem sumFrom_step(f:Nat->R)(g:p<n):sumFrom f p n=f p+sumFrom f (p+1) n:=by
 unfold sumFrom;rw[sum_pick _ g,ifn (by omega)]
 congr 1
 exact sum_congr λk _=>by
  by_cases c:k=p
  ·rw[ifp c,ifp (by omega)]
  rw[ifn c];by_cases d:k<p
  ·rw[ifp d,ifp (by omega)]
  rw[ifn d,ifn (by omega)]
end
end CSR
end
section
variable{k:Int}{a b c u v x:V}
def KK:Type:={ k:Int // k=1\/k=2\/k=3 }
def RK(k:KK):Type:={ v:V // okV k.1 v }
theorem Fe(d:okV k u)(g:okV k c):if k=1 then leV (Av k u c) u else leV u (Av k u c):=by
 rcases Da d with rfl|rfl|rfl
 ·rw[ifp rfl,Dd];unfold minV;split
  ·exact EZ _
  rcases Cf u c with h|h
  ·contradiction
  exact h
 ·rw[ifn (by decide),BY]
  rcases AF d (by decide) with rfl|⟨x,rfl,j⟩
  ·exact trivial
  rcases AF g (by decide) with rfl|⟨y,rfl,i⟩
  ·exact trivial
  show x<=x+y;have:=Rat.add_le_add_left (c:=x).2 i
  rwa [Rat.add_zero]at this
 rw[ifn (by decide),De];unfold maxV;split
 ·exact EZ _
 rcases Cf u c with h|h
 ·exact h
 contradiction
theorem NG(g:okV k u)(d:okV k v)(h:if k=1 then leV v u else leV u v):∃c,okV k c/\v=Av k u c:=by
 rcases Da g with rfl|rfl|rfl
 ·rw[ifp rfl]at h;exact⟨v,d,by rw[Dd,Cg h]⟩
 ·rw[ifn (by decide)]at h
  rcases AF g (by decide) with rfl|⟨x,rfl,j⟩
  ·refine⟨.inf,DC (.inr (.inl rfl)),?_⟩
   rcases AF d (by decide) with rfl|⟨y,rfl,i⟩
   ·rfl
   exact h.elim
  rcases AF d (by decide) with rfl|⟨y,rfl,i⟩
  ·exact⟨.inf,DC (.inr (.inl rfl)),by rw[BY];rfl⟩
  refine⟨.fin (y-x),.inr ⟨.inl rfl,(Rat.le_iff_sub_nonneg x y).1 h⟩,?_⟩;rw[BY];show V.fin y=V.fin (x+(y-x));congr 1;rw[Rat.add_comm,Rat.sub_add_cancel]
 rw[ifn (by decide)]at h;exact⟨v,d,by rw[De,BX h]⟩
theorem NF(m:okV k a)(o:okV k x)(hb:okV k b)(i:okV k c)(h:x=Av k (Av k (Ai k a x) b) c):
  (if k=1 then leV x (Ai k a x) else leV (Ai k a x) x)/\(if k=1 then leV x b else leV b x):=by
 have d:okV k (Ai k a x):=Fi m o;have g:=Fe d (Ga hb i);have bx:=Fe hb (Ga d i);have j:Av k (Ai k a x) (Av k b c)=x:=by rw[<-Kh hb,<-h]
 have l:Av k b (Av k (Ai k a x) c)=x:=by rw[<-Kh d,Ob hb,<-h]
 rw[j]at g;rw[l]at bx;exact⟨g,bx⟩
theorem PM(c:okV k v)(d:k=1\/k=2\/k=3):Ai k (oneV k) v=v:=by
 rw[PL (NV d) c];exact IA c
theorem park1(u:okV 1 a)(z:okV 1 x)(hb:okV 1 b)(g:leV x (Ai 1 a x))(h:leV x b):leV x (Ai 1 (AA 1 a) b):=by
 have o:AA 1 a=if 0<=cmpV a (.fin 0) then .fin 0 else .low:=rfl
 rw[o]
 split
 ·have:Ai 1 (.fin 0) b=b:=PM (k:=1) hb (.inl rfl);rw[this];exact h
 rename_i l;have d:leV a (.fin 0):=(Cz _ _).1 (by omega);cases b with
 |inf=>cases x<;>trivial
 |low=>rw[times1];exact h
 |fin q =>
  rw[times1];cases x with
  |low=>trivial
  |inf=>exact h.elim
  |fin y =>
   exfalso
   rw[times1]at g;cases a with
   |inf=>exact d.elim
   |low=>exact g.elim
   |fin r =>
    have m:r<=0:=d;have i:r≠0:=by intro e;subst e;exact l (by decide +kernel)
    have p:y<=r+y:=g;have s:r<0:=Rat.lt_of_le_of_ne m i;have j:=Rat.add_lt_add_right (c:=y).2 s;rw[Rat.zero_add]at j;exact absurd p (Rat.not_le.2 j)
theorem park3(m:okV 3 a)(o:okV 3 x)(hb:okV 3 b)(c:leV (Ai 3 a x) x)(i:leV b x):leV (Ai 3 (AA 3 a) b) x:=by
 have B:AA 3 a=if cmpV a (.fin 1)<=0 then .fin 1 else .inf:=rfl
 have n3:(3:Int)≠1:=by decide
 rw[B]
 split
 ·have:Ai 3 (.fin 1) b=b:=PM (k:=3) hb (.inr (.inr rfl));rw[this];exact i
 rename_i z;rw[times23 n3 (by simp) (AB hb n3)];rw[times23 n3 (AB m n3) (AB o n3)]at c
 rcases AF o n3 with rfl|⟨y,rfl,p⟩
 ·cases (mulV .inf b)<;>trivial
 rcases AF hb n3 with rfl|⟨q,rfl,A⟩
 ·exact i.elim
 by_cases d:q=0
 ·subst d;rw[CG];exact p
 exfalso
 have g:q<=y:=i;have j:0<q:=Rat.lt_of_le_of_ne A (λe=>d e.symm);have h:0<y:=by
  refine Rat.lt_of_le_of_ne p (λe=>?_);rw[<-e]at g;exact absurd g (Rat.not_le.2 j)
 have l:y≠0:=Rat.ne_of_gt h
 rcases AF m n3 with rfl|⟨r,rfl,C⟩
 ·rw[BH l]at c;exact c.elim
 rw[Bv]at c;have s:r*y<=1*y:=by rw[Rat.one_mul];exact c
 have u:r<=1:=Rat.le_of_mul_le_mul_right s h;exact z<|(Cz _ _).2 u
theorem park2(l:okV 2 a)(B:okV 2 x)(hb:okV 2 b)(h:leV (addV (Ai 2 a x) b) x):leV (Ai 2 (AA 2 a) b) x:=by
 have n2:(2:Int)≠1:=by decide
 have u:okV 2 (AA 2 a):=(Iv l).1;rw[times23 n2 (AB u n2) (AB hb n2)];rw[times23 n2 (AB l n2) (AB B n2)]at h
 rcases AF B n2 with rfl|⟨y,rfl,C⟩
 ·cases (mulV (AA 2 a) b)<;>trivial
 rcases AF hb n2 with rfl|⟨s,rfl,A⟩
 ·have:addV (mulV a (.fin y)) .inf=.inf:=by cases (mulV a (.fin y))<;>rfl
  rw[this]at h;exact h.elim
 rcases AF l n2 with rfl|⟨r,rfl,F⟩
 ·have e:AA 2 .inf=.inf:=rfl;rw[e];by_cases k:y=0
  ·subst k;rw[CG]at h;have j:(0:Rat)+s<=0:=h;rw[Rat.zero_add]at j;have:s=0:=Rat.le_antisymm j A;subst this;rw[CG];exact Rat.le_refl
  rw[BH k]at h;exact h.elim
 rw[Bv]at h;have j:r*y+s<=y:=h;have e:AA 2 (.fin r)=if 0<=cmpQ r 1 then .inf else .fin (1 / (1-r)):=rfl
 rw[e]
 split
 ·rename_i i;have p:1<=r:=by
   rcases BJ r 1 with⟨g,d⟩|⟨g,d⟩|⟨g,d⟩
   ·rw[d]at i;exact absurd i (by decide)
   ·rw[g];exact Rat.le_refl
   exact Rat.le_of_lt g
  have z:1*y<=r*y:=Rat.mul_le_mul_of_nonneg_right p C;rw[Rat.one_mul]at z;have D:r*y+s<=r*y+0:=by rw[Rat.add_zero];exact Rat.le_trans j z
  have E:s<=0:=Rat.add_le_add_left.1 D;have:s=0:=Rat.le_antisymm E A;subst this;rw[CG];exact C
 rename_i i;have o:r<1:=by
  rcases BJ r 1 with⟨g,d⟩|⟨g,d⟩|⟨g,d⟩
  ·exact g
  ·rw[d]at i;exact absurd (by decide) i
  rw[d]at i;exact absurd (by decide) i
 have hd:0<1-r:=(Rat.lt_iff_sub_pos r 1).1 o;have m:1-r≠0:=Rat.ne_of_gt hd;rw[Bv];show 1 / (1-r)*s<=y;refine Rat.le_of_mul_le_mul_left (c:=1-r) ?_ hd;rw[<-Rat.mul_assoc,Rat.div_def,Rat.one_mul,Rat.mul_inv_cancel _ m,Rat.one_mul];rw[Rat.sub_eq_add_neg,Rat.add_mul,Rat.one_mul,Rat.neg_mul,<-Rat.sub_eq_add_neg];refine Rat.le_sub_iff.2 ?_;rw[Rat.add_comm];exact j
theorem Vo(g:okV k a)(i:okV k x)(hb:okV k b)(m:okV k c)(h:x=Av k (Av k (Ai k a x) b) c):
  ∃d,okV k d/\x=Av k (Ai k (AA k a) b) d:=by
 have o:=(Iv g).1;refine NG (Fi o hb) i ?_
 rcases Da g with rfl|rfl|rfl
 ·obtain⟨j,l⟩:=NF g i hb m h;rw[ifp rfl]at j l ⊢;exact park1 g i hb j l
 ·rw[ifn (by decide)];have:=Fe (Ga (Fi g i) hb) m;rw[<-h,ifn (by decide),BY]at this;exact park2 g i hb this
 obtain⟨j,l⟩:=NF g i hb m h;rw[ifn (by decide)]at j l ⊢;exact park3 g i hb j l
theorem QU{d:V}(j:okV k a)(hb:okV k b)(l:okV k c)(hd:okV k d)(h:b=Av k a c)(i:a=Av k b d):a=b:=by
 have x:=Fe j l;have y:=Fe hb hd;rw[<-h]at x;rw[<-i]at y;by_cases g:k=1
 ·rw[ifp g]at x y;exact FQ y x
 rw[ifn g]at x y;exact FQ x y
namespace RK
variable{k:KK}
theorem ext{a b:RK k}(h:a.1=b.1):a=b:=Subtype.ext h
instance csr:CSR (RK k) where
 add a b:=⟨Av k.1 a.1 b.1,Ga a.2 b.2⟩
 mul a b:=⟨Ai k.1 a.1 b.1,Fi a.2 b.2⟩
 zero:=⟨zeroV k.1,Vb k.2⟩
 one:=⟨oneV k.1,NV k.2⟩
 star a:=⟨AA k.1 a.1,(Iv a.2).1⟩
 add_comm a _:=ext<|Ob a.2
 add_assoc _ b _:=ext<|Kh b.2
 add_zero a:=ext<|VJ a.2
 mul_comm a b:=ext<|PL a.2 b.2
 mul_assoc a b c:=ext<|XN a.2 b.2 c.2
 mul_one a:=ext<|IA a.2
 mul_zero a:=ext<|XR k.1 a.1
 mul_add a b c:=ext<|XQ a.2 b.2 c.2
 star_eq a:=ext (Iv a.2).2.symm
 park a b x c h:=by
  obtain⟨d,hd,e⟩:=Vo a.2 x.2 b.2 c.2 (congrArg Subtype.val h);exact⟨⟨d,hd⟩,ext e⟩
 anti a b c d h1 h2:=ext<|QU a.2 b.2 c.2 d.2 (congrArg Subtype.val h1) (congrArg Subtype.val h2)
end RK
end
section
open Go.RowKit
def nvS(b:Bool)(n d:ByteArray):Value:=.agg #[.bool b,.string n,.string d]
def nv(q:Rat):Value:=nvS (negQ q) (str (dec q.num.natAbs)) (str (dec q.den))
def txtS(b:Bool)(n d:ByteArray):ByteArray :=
 let s:=if b then (⟨#[45]⟩:ByteArray)++n else n
 if d=⟨#[49]⟩ then s else s++((⟨#[47]⟩:ByteArray)++d)
theorem ND{s t:ByteArray}(h:s≠t):¬s.toList=t.toList:=by
 rw[Lib.toList_data,Lib.toList_data];intro e;apply h;exact Dl e
theorem BP{s:ByteArray}{l:List UInt8}(h:s≠str l):(s.toList==l)=false:=by
 rw[beq_eq_false_iff_ne,Lib.toList_data];intro e;apply h;rw[<-e];exact(Ee s).symm
theorem IZ(s t:ByteArray):bts (s++t)=bts s++bts t:=by
 show (s++t).data.toList=_;rw[ByteArray.data_append,Array.toList_append];rfl
theorem PS(q:Rat):txtS (negQ q) (str (dec q.num.natAbs)) (str (dec q.den))=txt q:=by
 apply Dl
 have hd:(str (dec q.den)=⟨#[49]⟩)↔q.den=1:=by
  constructor
  ·intro e;have:=congrArg bts e;rw[AK]at this;exact CB<|this.trans Cb.symm
  intro e;rw[e,Cb];rfl
 unfold txtS txt txtL;rw[AK];by_cases h:q.den=1
 ·rw[ifp (hd.2 h),ifp h];cases negQ q
  ·simp[AK]
  simp only[if_true,IZ,AK];simp[bts]
 rw[ifn (λe=>h (hd.1 e)),ifn h];cases negQ q
 ·simp only[Bool.false_eq_true,if_false,IZ,AK];simp[bts]
 simp only[if_true,IZ,AK];simp[bts]
theorem UX(b:Bool)(n d:ByteArray)(w:World)(hn:n.size<=400)(hd:d.size<=400):
  Calls prog 228 #[nvS b n d] w λe w'=>e=.returned (.string (txtS b n d))/\Below w.heap.size w w':=by
 have g:(n.size:Int)<=8388608:=by omega
 have i:(d.size:Int)<=8388608:=by omega
 clear hn hd;have c:Below w.heap.size w (w.alloc (.cells #[.bool b,.string n,.string d] 180)):=blr.alloc nlr _;replace c:=qh c;unfold nvS;by_cases h:d=⟨#[49]⟩
 ·subst h;cases b<;>simp only[txtS,if_true,if_false,Bool.false_eq_true]
  all_goals
   go_enter func228,ntmps228
   go_wp2;go_ret;exact⟨rfl,c.o⟩
 have j:(d.toList==[49])=false:=BP h;cases b<;>simp only[txtS,if_true,if_false,Bool.false_eq_true]<;>rw[ifn h]<;>clear h
 ·go_enter func228,ntmps228
  go_wp2;go_ret;exact⟨rfl,c.o⟩
 have k:(((⟨#[45]⟩:ByteArray)++n).size:Int)<=8388609:=by rw[ByteArray.size_append];show ((1+n.size:Nat):Int)<=_;omega
 go_enter func228,ntmps228
 go_wp2;go_ret;exact⟨rfl,c.o⟩
theorem UW(q:Rat)(w:World)(h:fitQ q):
  Calls prog 228 #[nv q] w λe w'=>e=.returned (.string (txt q))/\Below w.heap.size w w':=by
 rw[<-PS];exact UX _ _ _ w (by rw[AH];exact h.1) (by rw[AH];exact h.2)
theorem AZ(c:ByteArray)(w:World):Calls prog 165 #[.string c,.int .i64 0] w λe w'=>e=.returned (.string c)/\w=w':=by
 go_enter func165,ntmps165
 go_wp2;go_ret;exact⟨rfl,rfl⟩
end
section
variable{i m:Nat}
namespace CSR
section
variable{R:Type}[CSR R]
def Lub(S:Nat->R)(s:R):Prop:=(∀n,le (S n) s)/\∀u,(∀n,le (S n) u)->le s u
def Mono(S:Nat->R):Prop:=∀n,le (S n) (S (n+1))
def geo(a:R):Nat->R
 |0=>zero
 |n+1=>one+a*geo a n
end
end CSR
class CSC (R:Type) [CSR R]:Prop where
 lub_add:∀(S:Nat->R) (s b:R),CSR.Lub S s->∀u,(∀n,CSR.le (S n+b) u)->CSR.le (s+b) u
 lub_mul:∀(S:Nat->R) (s b:R),CSR.Lub S s->∀u,(∀n,CSR.le (S n*b) u)->CSR.le (s*b) u
 lub_star:∀(a u:R),(∀n,CSR.le (CSR.geo a n) u)->CSR.le (CSR.star a) u
namespace CSR
section
variable{R:Type}[CSR R]
theorem sum_comm(f:Nat->Nat->R)(m:Nat):∀n,sum (λi=>sum (f i) m) n=sum (λj=>sum (λi=>f i j) n) m
 |0=>by
  show zero=_;exact(sum_zero m).symm
 |n+1=>by
  show sum (λi=>sum (f i) m) n+sum (f n) m=_;rw[sum_comm f m n,<-sum_add];rfl
theorem zero_le(a:R):le zero a:=⟨a,(z0 a).symm⟩
theorem le_mul{a b c d:R}(h:le a b)(k:le c d):le (a*c) (b*d):=le_trans (le_times a k) (by rw[mC a d,mC b d];exact le_times d h)
theorem Mono.to{S:Nat->R}(h:Mono S){n:Nat}(c:n<=m):le (S n) (S m):=by
 induction m with
 |zero=>rw[Nat.le_zero.1 c];exact le_refl _
 |succ m ih =>
  by_cases e:n=m+1
  ·rw[e];exact le_refl _
  exact le_trans (ih (by omega)) (h m)
theorem Mono.const(s:R):Mono (λ_=>s):=λ_=>le_refl s
theorem Mono.add{S T:Nat->R}(h:Mono S)(k:Mono T):Mono (λn=>S n+T n):=λn=>le_plus (h n) (k n)
theorem Mono.mul{S T:Nat->R}(h:Mono S)(k:Mono T):Mono (λn=>S n*T n):=λn=>le_mul (h n) (k n)
theorem Mono.sum{S:Nat->Nat->R}(h:∀i,i<m->Mono (S i)):Mono (λn=>CSR.sum (λi=>S i n) m):=λn=>sum_le λi hi=>h i hi n
theorem Lub.const(s:R):Lub (λ_=>s) s:=⟨λ_=>le_refl s,λu h=>h 0⟩
theorem Lub.congr{S T:Nat->R}{s:R}(h:Lub S s)(c:∀n,S n=T n):Lub T s:=by
 have:S=T:=funext c;rw[<-this];exact h
theorem Lub.le_of{S T:Nat->R}{s t:R}(h:Lub S s)(k:Lub T t)(c:∀n,∃m,le (S n) (T m)):le s t :=
 h.2 t λn=>by obtain⟨m,d⟩:=c n;exact le_trans d (k.1 m)
theorem Lub.eq_of{S T:Nat->R}{s t:R}(h:Lub S s)(k:Lub T t)(c:∀n,∃m,le (S n) (T m))(d:∀n,∃m,le (T n) (S m)):s=t:=le_anti (h.le_of k c) (k.le_of h d)
theorem Lub.eq{S:Nat->R}{s t:R}(h:Lub S s)(k:Lub S t):s=t:=h.eq_of k (λn=>⟨n,le_refl _⟩) (λn=>⟨n,le_refl _⟩)
theorem Lub.of{S T:Nat->R}{s:R}(h:Lub S s)(d:∀n,∃m,le (S n) (T m))(g:∀n,∃m,le (T n) (S m)):Lub T s :=
 ⟨λn=>by obtain⟨m,c⟩:=g n;exact le_trans c (h.1 m),λu i=>h.2 u λn=>by obtain⟨m,c⟩:=d n;exact le_trans c (i m)⟩
theorem Lub.shift{S:Nat->R}{s:R}(h:Lub S s)(c:Mono S)(k:Nat):Lub (λn=>S (n+k)) s :=
 h.of (λn=>⟨n,c.to (by omega)⟩) (λn=>⟨n+k,le_refl _⟩)
theorem geo_mono{a b:R}(h:le a b):∀{n m:Nat},n<=m->le (geo a n) (geo b m)
 |0,_,_=>zero_le _
 |n+1,m+1,hm=>le_plus (le_refl _) (le_mul h (geo_mono h (by omega)))
 |n+1,0,hm=>absurd hm (by omega)
theorem geo_le_star(a:R):∀n,le (geo a n) (star a)
 |0=>zero_le _
 |n+1=>by rw[sE a];exact le_plus (le_refl _) (le_times a (geo_le_star a n))
def way(M:Nat->Nat->R)(p:Nat):Nat->Nat->Nat->R
 |0,_,_=>zero
 |N+1,i,j=>M i j+sum (λk=>M i k*way M p N k j) p
theorem way_step(M:Nat->Nat->R)(p:Nat):∀N i j,le (way M p N i j) (way M p (N+1) i j)
 |0,_,_=>zero_le _
 |N+1,i,j=>le_plus (le_refl _) (sum_le λk _=>le_times _ (way_step M p N k j))
theorem way_mono(M:Nat->Nat->R)(p i j:Nat):Mono (λN=>way M p N i j):=λN=>way_step M p N i j
theorem way_le(M:Nat->Nat->R)(p:Nat):∀N i j,le (way M p N i j) (elims M p i j)
 |0,_,_=>zero_le _
 |N+1,i,j=>by rw[elims_first];exact le_plus (le_refl _) (sum_le λk _=>le_times _ (way_le M p N k j))
theorem way_cat(M:Nat->Nat->R)(p b j:Nat):∀a i,le (way M p a i p*way M (p+1) b p j+way M p a i j) (way M (p+1) (a+b) i j)
 |0,i=>by show le (zero*_+zero) _;rw[zm,a0];exact zero_le _
 |a+1,i=>by
  have ih:=way_cat M p b j a;have e:way M (p+1) (a+1+b) i j=M i j+(sum (λk=>M i k*way M (p+1) (a+b) k j) p+M i p*way M (p+1) (a+b) p j):=by
   rw[show a+1+b=a+b+1 by omega];rfl
  rw[e];show le ((M i p+sum (λk=>M i k*way M p a k p) p)*way M (p+1) b p j+(M i j+sum (λk=>M i k*way M p a k j) p)) _;have e2:(M i p+sum (λk=>M i k*way M p a k p) p)*way M (p+1) b p j+(M i j+sum (λk=>M i k*way M p a k j) p)
    = M i j+(sum (λk=>M i k*(way M p a k p*way M (p+1) b p j+way M p a k j)) p+M i p*way M (p+1) b p j):=by
   rw[dM,sum_mul];have:sum (λk=>M i k*(way M p a k p*way M (p+1) b p j+way M p a k j)) p=sum (λk=>M i k*way M p a k p*way M (p+1) b p j) p+sum (λk=>M i k*way M p a k j) p:=by
    rw[<-sum_add];exact sum_congr λk _=>by rw[mD,mA]
   rw[this,aL,aA,aC (M i p*way M (p+1) b p j)]
  rw[e2];refine le_plus (le_refl _) (le_plus (sum_le λk _=>le_times _ (ih k)) (le_times _ ?_));exact(way_mono M (p+1) p j).to (by omega)
theorem way_geo(M:Nat->Nat->R)(p a j:Nat):∀l,le (geo (way M p a p p) l*way M p a p j) (way M (p+1) (l*a) p j)
 |0=>by show le (zero*_) _;rw[zm];exact zero_le _
 |l+1=>by
  show le ((one+way M p a p p*geo (way M p a p p) l)*way M p a p j) _;rw[dM,o1,mA,aC];refine le_trans (le_plus (le_times _ (way_geo M p a j l)) (le_refl _)) ?_;have:=way_cat M p (l*a) j a p;rw[show (l+1)*a=a+l*a by rw[Nat.add_mul];omega];exact this
theorem way_star(M:Nat->Nat->R)(p a l i j:Nat):le (way M p a i p*(geo (way M p a p p) l*way M p a p j)+way M p a i j) (way M (p+1) (a+l*a) i j) :=
 le_trans (le_plus (le_times _ (way_geo M p a j l)) (le_refl _)) (way_cat M p (l*a) j a i)
variable[CSC R]
theorem Lub.add{S T:Nat->R}{s t:R}(h:Lub S s)(k:Lub T t)(g:Mono S)(i:Mono T):Lub (λn=>S n+T n) (s+t):=by
 refine⟨λn=>le_plus (h.1 n) (k.1 n),λu j=>?_⟩;have c:∀n m,le (S n+T m) u:=λn m=>le_trans (le_plus (g.to (Nat.le_max_left n m)) (i.to (Nat.le_max_right n m))) (j (max n m));have d:∀m,le (s+T m) u:=λm=>CSC.lub_add S s (T m) h u λn=>c n m;rw[aC];exact CSC.lub_add T t s k u λm=>by rw[aC];exact d m
theorem Lub.mul{S T:Nat->R}{s t:R}(h:Lub S s)(k:Lub T t)(g:Mono S)(i:Mono T):Lub (λn=>S n*T n) (s*t):=by
 refine⟨λn=>le_mul (h.1 n) (k.1 n),λu j=>?_⟩;have c:∀n m,le (S n*T m) u:=λn m=>le_trans (le_mul (g.to (Nat.le_max_left n m)) (i.to (Nat.le_max_right n m))) (j (max n m));have d:∀m,le (s*T m) u:=λm=>CSC.lub_mul S s (T m) h u λn=>c n m;rw[mC];exact CSC.lub_mul T t s k u λm=>by rw[mC];exact d m
theorem Lub.mulL{S:Nat->R}{s:R}(h:Lub S s)(b:R):Lub (λn=>b*S n) (b*s) :=
 ⟨λn=>le_times b (h.1 n),λu c=>by rw[mC];exact CSC.lub_mul S s b h u λn=>by rw[mC];exact c n⟩
theorem Lub.sum{S:Nat->Nat->R}{s:Nat->R}:∀{m:Nat},(∀i,i<m->Lub (S i) (s i))->(∀i,i<m->Mono (S i))->Lub (λn=>CSR.sum (λi=>S i n) m) (CSR.sum s m)
 |0,_,_=>Lub.const _
 |m+1,h,k=>(Lub.sum (λi hi=>h i (by omega)) (λi hi=>k i (by omega))).add (h m (by omega)) (Mono.sum λi hi=>k i (by omega)) (k m (by omega))
theorem Lub.geo{S:Nat->R}{s:R}(h:Lub S s)(hS:Mono S):∀l,Lub (λn=>CSR.geo (S n) l) (CSR.geo s l)
 |0=>Lub.const _
 |l+1=>(Lub.const one).add (h.mul (Lub.geo h hS l) hS (λn=>geo_mono (hS n) (Nat.le_refl l))) (Mono.const one) (hS.mul λn=>geo_mono (hS n) (Nat.le_refl l))
theorem Lub.star{S:Nat->R}{s:R}(h:Lub S s)(c:Mono S):Lub (λn=>CSR.geo (S n) n) (CSR.star s):=by
 refine⟨λn=>le_trans (geo_mono (h.1 n) (Nat.le_refl n)) (geo_le_star s n),λu d=>CSC.lub_star s u λl=>?_⟩;exact(h.geo c l).2 u λn=>le_trans (geo_mono (c.to (Nat.le_max_left n l)) (Nat.le_max_right n l)) (d (max n l))
theorem elims_lub(M:Nat->Nat->R):∀p i j,Lub (λN=>way M p N i j) (elims M p i j)
 |0,i,j=>⟨λN=>way_le M 0 N i j,λu hu=>by
   have h1:le (way M 0 1 i j) u:=hu 1;rw[show way M 0 1 i j=M i j from a0 _]at h1;exact h1⟩
 |p+1,i,j=>by
  refine⟨λN=>way_le M (p+1) N i j,λu hu=>?_⟩;have hm:=way_mono M p;have hl:Lub (λN=>way M p N i p*(CSR.geo (way M p N p p) N*way M p N p j)+way M p N i j) (elims M p i p*(CSR.star (elims M p p p)*elims M p p j)+elims M p i j) :=
   ((
    elims_lub M p i p).mul (((elims_lub M p p p).star (hm p p)).mul (elims_lub M p p j) (λn=>geo_mono (hm p p n) (by omega)) (hm p j)) (hm i p) (Mono.mul (λn=>geo_mono (hm p p n) (by omega)) (hm p j))).add (elims_lub M p i j)
    (Mono.mul (hm i p) (Mono.mul (λn=>geo_mono (hm p p n) (by omega)) (hm p j))) (hm i j)
  have:=hl.2 u λN=>le_trans (way_star M p N N i j) (hu _);show le (elims M p i j+elims M p i p*CSR.star (elims M p p p)*elims M p p j) u;rw[aC,mA];exact this
def rnd(M:Nat->Nat->R)(n:Nat)(r:Nat->Nat->R):Nat->Nat->R
 |0,_=>zero
 |N+1,i=>r N i+sum (λk=>M i k*rnd M n r N k) n
theorem rnd_mono(M:Nat->Nat->R)(n:Nat){r:Nat->Nat->R}(hr:∀i,i<n->Mono (λN=>r N i)):∀N i,i<n->le (rnd M n r N i) (rnd M n r (N+1) i)
 |0,_,_=>zero_le _
 |N+1,i,hi=>le_plus (hr i hi N) (sum_le λk hk=>le_times _ (rnd_mono M n hr N k hk))
def sol(M:Nat->Nat->R)(n:Nat)(r:Nat->R)(i:Nat):R:=sum (λj=>starM M n i j*r j) n
theorem sol_eq(M:Nat->Nat->R)(n:Nat)(r:Nat->R)(hi:i<n):sol M n r i=r i+sum (λk=>M i k*sol M n r k) n:=by
 have h:∀j,j<n->starM M n i j*r j=eye i j*r j+sum (λk=>M i k*(starM M n k j*r j)) n:=λj c=>by
  rw[starM_left M c,dM,sum_mul];congr 1;exact sum_congr λk _=>mA ..
 show sum (λj=>starM M n i j*r j) n=_;rw[sum_congr h,sum_add]
 congr 1
 ·rw[sum_single _ hi (λj _ c=>by unfold eye;rw[ifn (λe=>c e.symm),zm])];unfold eye;rw[ifp rfl,o1]
 rw[sum_comm];exact sum_congr λk _=>by unfold sol;rw[mul_sum]
theorem rnd_way(M:Nat->Nat->R)(n:Nat){r:Nat->Nat->R}(hr:∀i,i<n->Mono (λN=>r N i))(b:Nat):∀a i,i<n->le (sum (λj=>(way M n a i j+eye i j)*r b j) n) (rnd M n r (a+b+1) i)
 |0,i,hi=>by
  rw[sum_single _ hi (λj _ hj=>by show (zero+eye i j)*_=_;unfold eye;rw[ifn (λe=>hj e.symm),a0,zm])];show le ((zero+eye i i)*_) _;unfold eye;rw[ifp rfl,z0,o1,show 0+b+1=b+1 by omega];exact le_add ..
 |a+1,i,hi=>by
  have ih:=rnd_way M n hr b a;have h:∀j,j<n->(way M n (a+1) i j+eye i j)*r b j=eye i j*r b j+sum (λk=>M i k*((way M n a k j+eye k j)*r b j)) n:=λj hj=>by
   show (M i j+sum (λk=>M i k*way M n a k j) n+eye i j)*r b j=_;rw[dM,aC];congr 1;have e1:M i j=sum (λk=>M i k*eye k j) n:=by
    rw[sum_single _ hj (λk _ hk=>by unfold eye;rw[ifn hk,m0])];unfold eye;rw[ifp rfl,m1]
   rw[aC (M i j)]
   conv=>lhs;arg 1;arg 2;rw[e1]
   rw[<-sum_add,sum_mul];exact sum_congr λk _=>by rw[<-mD,mA]
  rw[sum_congr h,sum_add];rw[sum_single (λj=>eye i j*r b j) hi (λj _ hj=>by unfold eye;rw[ifn (λe=>hj e.symm),zm])];rw[show eye i i*r b i=r b i by unfold eye;rw[ifp rfl,o1]];rw[sum_comm,show a+1+b+1=(a+b+1)+1 by omega];refine le_plus ((hr i hi).to (by omega)) (sum_le λk hk=>?_);rw[<-mul_sum];exact le_times _ (ih k hk)
theorem rnd_lub(M:Nat->Nat->R)(n:Nat){r:Nat->Nat->R}{s:Nat->R}(d:∀i,i<n->Mono (λN=>r N i))(g:∀i,i<n->Lub (λN=>r N i) (s i))(hi:i<n):Lub (λN=>rnd M n r N i) (sol M n s i):=by
 constructor
 ·intro N
  induction N generalizing i with
  |zero=>exact zero_le _
  |succ N ih=>rw[sol_eq M n s hi];exact le_plus ((g i hi).1 N) (sum_le λk l=>le_times _ (ih l))
 intro u m;have h:Lub (λN=>sum (λj=>(way M n N i j+eye i j)*r N j) n) (sum (λj=>(elims M n i j+eye i j)*s j) n) :=
  Lub.sum (S:=λj N=>(way M n N i j+eye i j)*r N j) (λj c=>((elims_lub M n i j).add (Lub.const _) (way_mono M n i j) (Mono.const _)).mul (g j c) ((way_mono M n i j).add (Mono.const _)) (d j c))
   (λj c=>((way_mono M n i j).add (Mono.const _)).mul (d j c))
 exact h.2 u λN=>le_trans (rnd_way M n d N N i hi) (m _)
end
end CSR
end
end Go.Proofs.YtpldocnhbdlgfaaGreatDoor
