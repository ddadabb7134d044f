/- Parts. -/
import Derived.Test.YtpldocnhbdlgfaaGreatDoorPc00
namespace Go.Proofs.YtpldocnhbdlgfaaGreatDoor
set_option maxRecDepth 100000
set_option linter.all false
set_option maxHeartbeats 16000000
open Go Tryz
section
open Go.RowKit
variable{p q:Rat}{c:Bool}{j m:Nat}
def AM(l:List UInt8):Bool:=l.headD 0==45
def Al(l:List UInt8):List UInt8:=if AM l then l.tail else l
def hasS(l:List UInt8):Bool:=l.any (·==47)
def upTo(l:List UInt8):List UInt8:=l.takeWhile (· != 47)
def Bh(l:List UInt8):List UInt8:=(l.dropWhile (· != 47)).tail
def denL(l:List UInt8):List UInt8:=if hasS l then Bh l else [49]
def okP(neg:Bool)(n d:List UInt8)(frac:Bool):Bool :=
 Aq n&&Aq d&&decide (n.length<=400)&&decide (d.length<=400)&&!(neg&&(n==[48]))&&!(frac&&(d==[48]||d==[49]))&&decide (Nat.gcd (num n) (num d)=1)
def sg(neg:Bool)(m:Nat):Int:=if neg then -(m:Int) else (m:Int)
def prsL(l:List UInt8):Option Rat :=
 if okP (AM l) (upTo (Al l)) (denL (Al l)) (hasS (Al l)) then some (mkRat (sg (AM l) (num (upTo (Al l)))) (num (denL (Al l)))) else none
def prs(s:ByteArray):Option Rat:=prsL<|bts s
def fitQ(q:Rat):Prop:=(dec q.num.natAbs).length<=400/\(dec q.den).length<=400
instance (q:Rat):Decidable (fitQ q):=inferInstanceAs<|Decidable (_/\_)
def negQ(q:Rat):Bool:=decide<|q.num<0
def txtL(q:Rat):List UInt8:=(if negQ q then [45] else [])++(dec q.num.natAbs++(if q.den=1 then [] else 47::dec q.den))
def txt(q:Rat):ByteArray:=str<|txtL q
def limR(q:Rat):ByteArray × Nat:=if fitQ q then (txt q,0) else (str [],2)
theorem HA(neg:Bool)(m:Nat):(sg neg m).natAbs=m:=by unfold sg;split<;>simp
def WF{neg:Bool}:sg neg m=0↔m=0:=by unfold sg;split<;>omega
theorem HD{neg:Bool}:sg neg m<0↔(neg=true/\m≠0):=by unfold sg;cases neg<;>simp<;>omega
theorem Ev(q:Rat):sg (negQ q) q.num.natAbs=q.num:=by unfold sg negQ;by_cases h:q.num<0<;>simp[h]<;>omega
def Uh{n:Int}{d:Nat}(hd:d≠0)(h:Nat.gcd n.natAbs d=1):(mkRat n d).num=n/\(mkRat n d).den=d:=by
 have:=Rat.mk_eq_mkRat n d hd h;rw[<-this];exact⟨rfl,rfl⟩
theorem Cz:dec 0=[48]:=by rw[Bv (by omega)];rfl
theorem Cb:dec 1=[49]:=by rw[Bv (by omega)];rfl
def Nz{neg:Bool}{n d:List UInt8}(h:okP neg n d c=true):
  Aq n=true/\Aq d=true/\n.length<=400/\d.length<=400/\(neg=true->n≠[48])/\(c=true->d≠[48]/\d≠[49])/\Nat.gcd (num n) (num d)=1:=by
 simp only[okP,Bool.and_eq_true,Bool.not_eq_true',decide_eq_true_eq]at h;obtain⟨⟨⟨⟨⟨⟨i,j⟩,k⟩,l⟩,m⟩,g⟩,o⟩:=h;refine⟨i,j,k,l,?_,?_,o⟩
 ·intro p e;subst p;subst e;simp at m
 intro hf;subst hf;simp at g;exact g
def UN{neg:Bool}{n d:List UInt8}(g:Aq n=true)(h:Aq d=true)(i:n.length<=400)(j:d.length<=400)
  (k:neg=true->n≠[48]) (l:c=true->d≠[48]/\d≠[49]) (m:Nat.gcd (num n) (num d)=1):okP neg n d c=true:=by
 simp only[okP,Bool.and_eq_true,Bool.not_eq_true',decide_eq_true_eq];refine⟨⟨⟨⟨⟨⟨g,h⟩,i⟩,j⟩,?_⟩,?_⟩,m⟩
 ·cases neg
  ·rfl
  have:=k rfl;simp[this]
 cases c
 ·rfl
 have:=l rfl;simp[this.1,this.2]
theorem Nx{l:List UInt8}(h:Aq l=true):num l=0↔l=[48]:=by
 constructor
 ·intro e;rw[<-BV h,e,Cz]
 intro e;subst e;rfl
structure IsQ(q:Rat)(neg:Bool)(n d:List UInt8):Prop where
 sign:negQ q=neg
 top:dec q.num.natAbs=n
 bot:dec q.den=d
 topv:q.num.natAbs=num n
 botv:q.den=num d
 fit:fitQ q
def UM{neg:Bool}{n d:List UInt8}(h:okP neg n d c=true)(s:c=false->d=[49]):IsQ (mkRat (sg neg (num n)) (num d)) neg n d:=by
 obtain⟨o,p,u,z,A,B,C⟩:=Nz h;have hd:num d≠0:=by
  intro e;have g:=(Nx p).1 e;cases hf:c
  ·have:=s hf;rw[this]at g;simp at g
  exact(B hf).1 g
 obtain⟨k,i⟩:=Uh (n:=sg neg (num n)) hd (by rw[HA];exact C);have j:(mkRat (sg neg (num n)) (num d)).num.natAbs=num n:=by rw[k,HA]
 have l:dec (num n)=n:=BV o;have m:dec (num d)=d:=BV p;refine⟨?_,by rw[j,l],by rw[i,m],j,i,?_⟩
 ·unfold negQ;rw[k];cases neg
  ·simp[sg]
  have:num n≠0:=λe=>A rfl ((Nx o).1 e);simp[sg];omega
 unfold fitQ;rw[j,i,l,m];exact⟨u,z⟩
def JQ{l:List UInt8}(h:prsL l=some q):okP (AM l) (upTo (Al l)) (denL (Al l)) (hasS (Al l))=true/\IsQ q (AM l) (upTo (Al l)) (denL (Al l)):=by
 unfold prsL at h
 split at h
 ·rename_i c;have d:=Option.some.inj h;refine⟨c,?_⟩;rw[<-d];exact UM c (λh=>by unfold denL;rw[h];rfl)
 exact absurd h (by simp)
def VU(l:List UInt8):l=(if AM l then [45] else [])++Al l:=by
 unfold Al
 split
 ·rename_i h;cases l with
  |nil=>simp[AM]at h
  |cons a l=>simp[AM]at h;simp[h]
 simp
def Fa(l:List UInt8)(h:hasS l=true):l=upTo l++47::Bh l:=by
 induction l with
 |nil=>simp[hasS]at h
 |cons a l ih =>
  by_cases c:a=47
  ·subst c;simp[upTo,Bh]
  have:hasS l=true:=by simpa [hasS,c] using h
  have i:=ih this;have d:upTo (a::l)=a::upTo l:=by simp[upTo,c]
  have g:Bh (a::l)=Bh l:=by simp[Bh,c]
  rw[d,g,List.cons_append,<-i]
theorem GN(l:List UInt8)(h:hasS l=false):upTo l=l:=by
 induction l with
 |nil=>rfl
 |cons a l ih =>
  simp[hasS]at h;have c:upTo (a::l)=a::upTo l:=by simp[upTo,h.1]
  rw[c,ih (by simp[hasS];exact h.2)]
theorem Mc{l:List UInt8}(h:dgts l=true):∀c ∈ l,c≠47/\c≠45:=by
 intro c d;have:=List.all_eq_true.1 h c d;simp[dgt]at this
 constructor
 ·intro e;subst e;simp at this
 intro e;subst e;simp at this
def XW{n r:List UInt8}(h:∀c ∈ n,c≠47):upTo (n++47::r)=n/\Bh (n++47::r)=r/\hasS (n++47::r)=true:=by
 induction n with
 |nil=>simp[upTo,Bh,hasS]
 |cons a n ih =>
  have d:=h a (by simp);obtain⟨i1,i,j⟩:=ih<|λc g=>h c (by simp[g]);refine⟨?_,?_,by simp[hasS]⟩
  ·rw[List.cons_append];show upTo (a::_)=_;have:upTo (a::(n++47::r))=a::upTo (n++47::r):=by simp[upTo,d]
   rw[this,i1]
  have:Bh (a::(n++47::r))=Bh (n++47::r):=by simp[Bh,d]
  rw[List.cons_append,this,i]
theorem noS{n:List UInt8}(h:∀c ∈ n,c≠47):hasS n=false:=by
 simp[hasS];exact h
def Vw(h:fitQ q):prsL (txtL q)=some q:=by
 obtain⟨d,A⟩:=h;have v1:Aq (dec q.num.natAbs)=true:=KP (by omega);have G:Aq (dec q.den)=true:=KP (by omega);have i:∀c ∈ dec q.num.natAbs,c≠47:=λc C=>(Mc (CV _) c C).1;have B:∀R:List UInt8,AM ((if negQ q then [45] else [])++(dec q.num.natAbs++R))=negQ q/\Al ((if negQ q then [45] else [])++(dec q.num.natAbs++R))=dec q.num.natAbs++R:=by
  intro R;have:AM ((if negQ q then [45] else [])++(dec q.num.natAbs++R))=negQ q:=by
   cases j:negQ q
   ·have k:=ES q.num.natAbs;have d:=CV q.num.natAbs
    revert k d
    generalize dec q.num.natAbs=l;intro k d;cases l with
    |nil=>simp at k
    |cons a l=>have:=(Mc d a (by simp)).2;simp[AM,this]
   simp[AM]
  refine⟨this,?_⟩;unfold Al;rw[this];cases negQ q<;>simp
 have g:denL (dec q.num.natAbs++(if q.den=1 then [] else 47::dec q.den))=dec q.den/\upTo (dec q.num.natAbs++(if q.den=1 then [] else 47::dec q.den))=dec q.num.natAbs/\
   hasS (dec q.num.natAbs++(if q.den=1 then [] else 47::dec q.den))=decide (q.den≠1):=by
  by_cases j:q.den=1
  ·rw[ifp j,List.append_nil,j];have:=noS i;refine⟨by unfold denL;rw[this,Cb];rfl,GN _ this,by rw[this];simp⟩
  rw[ifn j];obtain⟨i1,F,m⟩:=XW (r:=dec q.den) i;exact⟨by unfold denL;rw[m,F];rfl,i1,by rw[m];simp[j]⟩
 obtain⟨u,z⟩:=B (if q.den=1 then [] else 47::dec q.den)
 obtain⟨o,p,s⟩:=g;have D:okP (negQ q) (dec q.num.natAbs) (dec q.den) (decide (q.den≠1))=true:=by
  refine UN v1 G d A ?_ ?_ ?_
  ·intro E e;have:q.num.natAbs=0:=Cy<|e.trans Cz.symm;simp[negQ]at E;omega
  ·intro hf;simp at hf;refine⟨λe=>?_,λe=>hf ?_⟩
   ·exact q.den_nz (Cy (e.trans Cz.symm))
   exact Cy (e.trans Cb.symm)
  rw[CH,CH];exact q.reduced
 unfold prsL txtL;rw[u,z,o,p,s,ifp D,CH,CH,Ev,Rat.mkRat_self]
theorem Bi(h:fitQ q):prs (txt q)=some q:=by unfold prs txt;rw[AI];exact Vw h
def XN{l:List UInt8}(h:prsL l=some q):l=txtL q/\fitQ q:=by
 obtain⟨k,c⟩:=JQ h;refine⟨?_,c.fit⟩;have e:=VU l;have g:=Nz k;unfold txtL;rw[c.sign,c.top];have:Al l=upTo (Al l)++(if q.den=1 then [] else 47::dec q.den):=by
  cases d:hasS (Al l)
  ·have hd:denL (Al l)=[49]:=by unfold denL;rw[d];rfl
   have:q.den=1:=Cy<|c.bot.trans (hd.trans Cb.symm);rw[ifp this,List.append_nil,GN _ d]
  have hd:denL (Al l)=Bh (Al l):=by unfold denL;rw[d];rfl
  have:q.den≠1:=by
   intro j;have i:=c.bot;rw[j,Cb]at i;exact(g.2.2.2.2.2.1 d).2 i.symm
  rw[ifn this,c.bot,hd];exact Fa _ d
 rw[<-this];exact e
def AS{s:ByteArray}(h:prs s=some q):s=txt q/\fitQ q:=by
 obtain⟨c,d⟩:=XN h;exact⟨by unfold txt;rw[<-c,Eg],d⟩
def XP(c:fitQ p)(d:fitQ q)(h:txt p=txt q):p=q:=by
 have:=Bi c;rw[h,Bi d]at this;exact(Option.some.inj this).symm
def szQ(k:Nat)(q:Rat):Prop:=q.num.natAbs<10 ^ k/\q.den<10 ^ k
theorem EW:fitQ q↔szQ 400 q:=by
 unfold fitQ szQ;rw[BJ,BJ];omega
def szQ.mono{k:Nat}(h:szQ j q)(c:j<=k):szQ k q :=
 ⟨Nat.lt_of_lt_of_le h.1 (Nat.pow_le_pow_right (by omega) c),Nat.lt_of_lt_of_le h.2 (Nat.pow_le_pow_right (by omega) c)⟩
def Na{n:Int}{d:Nat}(hd:d≠0):(mkRat n d).num.natAbs<=n.natAbs/\(mkRat n d).den<=d:=by
 rw[Rat.num_mkRat,Rat.den_mkRat,ifn hd,ifn hd];exact⟨by rw[Int.natAbs_ediv_of_dvd];exact Nat.div_le_self _ _;exact Int.ofNat_dvd_left.2 (Nat.gcd_dvd_right _ _),Nat.div_le_self _ _⟩
def TP{a b A B:Nat}(c:a<A)(d:b<B):a*b<A*B:=by
 rcases Nat.eq_zero_or_pos b with h|h
 ·subst h;rw[Nat.mul_zero];exact Nat.mul_pos (by omega) (by omega)
 exact Nat.lt_of_lt_of_le (Nat.mul_lt_mul_of_pos_right c h) (Nat.mul_le_mul_left _ (by omega))
def szQ.neg(c:szQ j p):szQ j (-p):=by
 refine⟨?_,?_⟩
 ·rw[Rat.neg_num,Int.natAbs_neg];exact c.1
 rw[Rat.neg_den];exact c.2
def Dd(h:fitQ q):(txt q).size<=802:=by
 unfold txt;rw[AF];unfold txtL;obtain⟨c,d⟩:=h;simp only[List.length_append];have:(if negQ q then [45] else ([]:List UInt8)).length<=1:=by split<;>simp
 have:(if q.den=1 then [] else 47::dec q.den).length<=401:=by split<;>simp;omega
 omega
def MJ(q:Rat):(limR q).1.size<=802:=by
 unfold limR;split
 ·rename_i h;exact Dd h
 rw[AF];simp
def CX(h:fitQ q):limR q=(txt q,0):=by unfold limR;rw[ifp h]
theorem MI(h:¬fitQ q):limR q=(str [],2):=by unfold limR;rw[ifn h]
def AZ(a b:ByteArray):ByteArray × Nat:=match prs a,prs b with|some x,some y=>limR (x+y)|_,_=>(str [],1)
def BZ(a b:ByteArray):ByteArray × Nat:=match prs a,prs b with|some x,some y=>limR (x-y)|_,_=>(str [],1)
def BR(a b:ByteArray):ByteArray × Nat:=match prs a,prs b with|some x,some y=>limR (x*y)|_,_=>(str [],1)
def Bn(a b:ByteArray):ByteArray × Nat:=match prs a,prs b with|some x,some y=>if y=0 then (str [],4) else limR (x / y)|_,_=>(str [],1)
def cmpQ(x y:Rat):Int:=if x<y then -1 else if x=y then 0 else 1
def Bm(a b:ByteArray):Int:=match prs a,prs b with|some x,some y=>cmpQ x y|_,_=>0
def sumF(p:Bool)(a:Nat)(q:Bool)(b:Nat):Bool × Nat:=if p=q then (p,a+b) else if a<b then (q,b-a) else (p,a-b)
theorem Kw(p:Bool)(a:Nat)(q:Bool)(b:Nat):sg (sumF p a q b).1 (sumF p a q b).2=sg p a+sg q b:=by
 unfold sumF sg;cases p<;>cases q<;>simp<;>(try split)<;>(try simp)<;>omega
def Kv(p:Bool)(a:Nat)(q:Bool)(b:Nat):(sumF p a q b).2<=a+b:=by
 unfold sumF;split
 ·exact nlr
 split<;>simp<;>omega
theorem OF(p q:Bool)(m n:Nat):sg p m*sg q n=sg (p != q) (m*n):=by
 unfold sg;cases p<;>cases q<;>simp[Int.neg_mul,Int.mul_neg]
theorem WC(p:Bool)(m n:Nat):sg p m*(n:Int)=sg p (m*n):=by
 unfold sg;cases p<;>simp[Int.neg_mul]
theorem Kp(p:Bool)(m:Nat):sg (!p) m=- sg p m:=by unfold sg;cases p<;>simp
theorem Fo(x:Rat)(d:Nat):x.num*(d:Int)=sg (negQ x) (x.num.natAbs*d):=by
 rw[<-WC,Ev]
theorem Lj(x y:Rat):x+y=mkRat (sg (sumF (negQ x) (x.num.natAbs*y.den) (negQ y) (y.num.natAbs*x.den)).1 (sumF (negQ x) (x.num.natAbs*y.den) (negQ y) (y.num.natAbs*x.den)).2) (x.den*y.den):=by
 rw[Kw,<-Fo,<-Fo,Rat.add_def']
theorem Xc(x y:Rat):x-y=mkRat (sg (sumF (negQ x) (x.num.natAbs*y.den) (!negQ y) (y.num.natAbs*x.den)).1 (sumF (negQ x) (x.num.natAbs*y.den) (!negQ y) (y.num.natAbs*x.den)).2) (x.den*y.den):=by
 rw[Kw,Kp,<-Fo,<-Fo,Rat.sub_def',Int.sub_eq_add_neg]
theorem Nh(x y:Rat):x*y=mkRat (sg (negQ x != negQ y) (x.num.natAbs*y.num.natAbs)) (x.den*y.den):=by
 rw[<-OF,Ev,Ev,Rat.mul_def']
theorem Ts(y:Rat):y⁻¹=mkRat (sg (negQ y) y.den) y.num.natAbs:=by
 rw[Rat.inv_def];have h:=Ev y;unfold sg at h ⊢;cases c:negQ y
 ·rw[c]at h;simp at h;rw[<-h,Rat.divInt_ofNat];simp
 rw[c]at h;simp only[if_true]at h;rw[<-h,Rat.divInt_neg',Rat.divInt_ofNat];simp
def Mf(x y:Rat):x / y=mkRat (sg (negQ x != negQ y) (x.num.natAbs*y.den)) (x.den*y.num.natAbs):=by
 rw[Rat.div_def,Ts,<-OF,Ev]
 conv=>lhs;rw[<-Rat.mkRat_self x]
 rw[Rat.mkRat_mul_mkRat]
theorem LL(x y:Rat):cmpQ x y=if (sumF (negQ x) (x.num.natAbs*y.den) (!negQ y) (y.num.natAbs*x.den)).2=0 then 0 else if (sumF (negQ x) (x.num.natAbs*y.den) (!negQ y) (y.num.natAbs*x.den)).1=true then -1 else 1:=by
 have h:=Kw (negQ x) (x.num.natAbs*y.den) (!negQ y) (y.num.natAbs*x.den);rw[Kp,<-Fo,<-Fo]at h;unfold cmpQ;have c:=Rat.lt_iff x y;have g:=Rat.eq_iff_mul_eq_mul (p:=x) (q:=y);generalize sumF (negQ x) (x.num.natAbs*y.den) (!negQ y) (y.num.natAbs*x.den)=r at h ⊢;obtain⟨s,k⟩:=r;simp only at h ⊢;by_cases d:k=0
 ·rw[ifp d];have:sg s k=0:=WF.2 d;rw[ifn (by rw[c];omega),ifp (by rw[g];omega)]
 rw[ifn d];cases s
 ·have:0<sg false k:=by unfold sg;simp;omega
  rw[ifn (by rw[c];omega),ifn (by rw[g];omega)];rfl
 have:sg true k<0:=by unfold sg;simp;omega
 rw[ifp (by rw[c];omega)];rfl
def Nb(z:Int)(d:Nat)(hd:d≠0):(mkRat z d).num.natAbs=z.natAbs / Nat.gcd z.natAbs d/\(mkRat z d).den=d / Nat.gcd z.natAbs d/\negQ (mkRat z d)=decide (z<0):=by
 have c:=Rat.num_mkRat z d;have g:=Rat.den_mkRat z d;rw[ifn hd,Nat.gcd_comm]at c g;have h:(Nat.gcd z.natAbs d:Int) ∣ z:=Int.ofNat_dvd_left.2<|Nat.gcd_dvd_left _ _;have i:0<Nat.gcd z.natAbs d:=Nat.gcd_pos_of_pos_right _ (Nat.pos_of_ne_zero hd);refine⟨?_,g,?_⟩
 ·rw[c,Int.natAbs_ediv_of_dvd h,Int.natAbs_natCast]
 unfold negQ;rw[c];have:z / (Nat.gcd z.natAbs d:Int)<0↔z<0:=by
  rw[Int.ediv_lt_iff_lt_mul (by omega)];simp
 rw[decide_eq_decide];exact this
def nvS(b:Bool)(n d:ByteArray):Value:=.agg #[.bool b,.string n,.string d]
def nv(q:Rat):Value:=nvS (negQ q) (str (dec q.num.natAbs)) (str (dec q.den))
def txtS(b:Bool)(n d:ByteArray):ByteArray :=
 let s:=if b then (⟨#[45]⟩:ByteArray)++n else n
 if d=⟨#[49]⟩ then s else s++((⟨#[47]⟩:ByteArray)++d)
def Nl{s t:ByteArray}(h:s≠t):¬s.toList=t.toList:=by
 rw[Lib.toList_data,Lib.toList_data];intro e;apply h;exact Dh e
def BQ{s:ByteArray}{l:List UInt8}(h:s≠str l):(s.toList==l)=false:=by
 rw[beq_eq_false_iff_ne,Lib.toList_data];intro e;apply h;rw[<-e];exact(Eg s).symm
theorem IG(s t:ByteArray):bts (s++t)=bts s++bts t:=by
 show (s++t).data.toList=_;rw[ByteArray.data_append,Array.toList_append];rfl
theorem Ps(q:Rat):txtS (negQ q) (str (dec q.num.natAbs)) (str (dec q.den))=txt q:=by
 apply Dh
 have hd:(str (dec q.den)=⟨#[49]⟩)↔q.den=1:=by
  constructor
  ·intro e;have:=congrArg bts e;rw[AI]at this;exact Cy<|this.trans Cb.symm
  intro e;rw[e,Cb];rfl
 unfold txtS txt txtL;rw[AI];by_cases h:q.den=1
 ·rw[ifp (hd.2 h),ifp h];cases negQ q
  ·simp[AI]
  simp only[if_true,IG,AI];simp[bts]
 rw[ifn (λe=>h (hd.1 e)),ifn h];cases negQ q
 ·simp only[Bool.false_eq_true,if_false,IG,AI];simp[bts]
 simp only[if_true,IG,AI];simp[bts]
theorem UK(b:Bool)(n d:ByteArray)(w:World)(hn:n.size<=400)(hd:d.size<=400):
  Calls prog 228 #[nvS b n d] w λe w'=>e=.returned (.string (txtS b n d))/\Below w.heap.size w w':=by
 have g:(n.size:Int)<=8388608:=by omega
 have i:(d.size:Int)<=8388608:=by omega
 clear hn hd;have c:Below w.heap.size w (w.alloc (.cells #[.bool b,.string n,.string d] 180)):=blr.alloc nlr _;replace c:=qh c;unfold nvS;by_cases h:d=⟨#[49]⟩
 ·subst h;cases b<;>simp only[txtS,if_true,if_false,Bool.false_eq_true]
  all_goals
   go_enter func228,ntmps228
   go_wp2;go_ret;exact⟨rfl,c.o⟩
 have j:(d.toList==[49])=false:=BQ h;cases b<;>simp only[txtS,if_true,if_false,Bool.false_eq_true]<;>rw[ifn h]<;>clear h
 ·go_enter func228,ntmps228
  go_wp2;go_ret;exact⟨rfl,c.o⟩
 have k:(((⟨#[45]⟩:ByteArray)++n).size:Int)<=8388609:=by rw[ByteArray.size_append];show ((1+n.size:Nat):Int)<=_;omega
 go_enter func228,ntmps228
 go_wp2;go_ret;exact⟨rfl,c.o⟩
def UJ(q:Rat)(w:World)(h:fitQ q):
  Calls prog 228 #[nv q] w λe w'=>e=.returned (.string (txt q))/\Below w.heap.size w w':=by
 rw[<-Ps];exact UK _ _ _ w (by rw[AF];exact h.1) (by rw[AF];exact h.2)
def AY(c:ByteArray)(w:World):Calls prog 165 #[.string c,.int .i64 0] w λe w'=>e=.returned (.string c)/\w=w':=by
 go_enter func165,ntmps165
 go_wp2;go_ret;exact⟨rfl,rfl⟩
end
end Go.Proofs.YtpldocnhbdlgfaaGreatDoor
