/- Parts. -/
import Derived.Test.YteappjogmnogcaaGreatDoorZ00
import Derived.Shelf.Small.Wraps
import Derived.Shelf.Strconv.Itoa1
import Derived.Shelf.Strconv.Itoa2
import Derived.Shelf.Strings.Shaped
import Derived.Shelf.Strings.Repeat
import Derived.Shelf.Strings.BuilderCap
import Derived.Lib.AppendIntMem
namespace Go.Proofs.YteappjogmnogcaaGreatDoor
set_option maxRecDepth 100000
set_option linter.all false
set_option maxHeartbeats 16000000
open Go Tryz
section
variable{p q:Rat}{c:Bool}{j m:Nat}
def AS(l:List UInt8):Bool:=l.headD 0==45
def Ai(l:List UInt8):List UInt8:=if AS l then l.tail else l
def hasS(l:List UInt8):Bool:=l.any (·==47)
def upTo(l:List UInt8):List UInt8:=l.takeWhile (· != 47)
def Bl(l:List UInt8):List UInt8:=(l.dropWhile (· != 47)).tail
def denL(l:List UInt8):List UInt8:=if hasS l then Bl l else [49]
def okP(neg:Bool)(n d:List UInt8)(frac:Bool):Bool :=
 Aq n&&Aq d&&decide (n.length<=400)&&decide (d.length<=400)&&!(neg&&(n==[48]))&&!(frac&&(d==[48]||d==[49]))&&decide (Nat.gcd (num n) (num d)=1)
def sg(neg:Bool)(m:Nat):Int:=if neg then -(m:Int) else (m:Int)
def prsL(l:List UInt8):Option Rat :=
 if okP (AS l) (upTo (Ai l)) (denL (Ai l)) (hasS (Ai l)) then some (mkRat (sg (AS l) (num (upTo (Ai l)))) (num (denL (Ai l)))) else none
def prs(s:ByteArray):Option Rat:=prsL<|bts s
def fitQ(q:Rat):Prop:=(dec q.num.natAbs).length<=400/\(dec q.den).length<=400
instance (q:Rat):Decidable (fitQ q):=inferInstanceAs<|Decidable (_/\_)
def negQ(q:Rat):Bool:=decide<|q.num<0
def txtL(q:Rat):List UInt8:=(if negQ q then [45] else [])++(dec q.num.natAbs++(if q.den=1 then [] else 47::dec q.den))
def txt(q:Rat):ByteArray:=str<|txtL q
def limR(q:Rat):ByteArray × Nat:=if fitQ q then (txt q,0) else (str [],2)
theorem Iw(neg:Bool)(m:Nat):(sg neg m).natAbs=m:=by unfold sg;split<;>simp
def YN{neg:Bool}:sg neg m=0↔m=0:=by unfold sg;split<;>omega
theorem Ix{neg:Bool}:sg neg m<0↔(neg=true/\m≠0):=by unfold sg;cases neg<;>simp<;>omega
theorem Ey(q:Rat):sg (negQ q) q.num.natAbs=q.num:=by unfold sg negQ;by_cases h:q.num<0<;>simp[h]<;>omega
def Wi{n:Int}{d:Nat}(c:d≠0)(h:Nat.gcd n.natAbs d=1):(mkRat n d).num=n/\(mkRat n d).den=d:=by
 have:=Rat.mk_eq_mkRat n d c h;rw[<-this];exact⟨rfl,rfl⟩
theorem CG:dec 0=[48]:=by rw[BD (by omega)];rfl
theorem Ch:dec 1=[49]:=by rw[BD (by omega)];rfl
def OG{neg:Bool}{n d:List UInt8}(h:okP neg n d c=true):
  Aq n=true/\Aq d=true/\n.length<=400/\d.length<=400/\(neg=true->n≠[48])/\(c=true->d≠[48]/\d≠[49])/\Nat.gcd (num n) (num d)=1:=by
 simp only[okP,Bool.and_eq_true,Bool.not_eq_true',decide_eq_true_eq]at h;obtain⟨⟨⟨⟨⟨⟨i,j⟩,k⟩,l⟩,m⟩,g⟩,o⟩:=h;refine⟨i,j,k,l,?_,?_,o⟩
 ·intro p e;subst p;subst e;simp at m
 intro hf;subst hf;simp at g;exact g
def WP{neg:Bool}{n d:List UInt8}(g:Aq n=true)(h:Aq d=true)(i:n.length<=400)(j:d.length<=400)
  (k:neg=true->n≠[48]) (l:c=true->d≠[48]/\d≠[49]) (m:Nat.gcd (num n) (num d)=1):okP neg n d c=true:=by
 simp only[okP,Bool.and_eq_true,Bool.not_eq_true',decide_eq_true_eq];refine⟨⟨⟨⟨⟨⟨g,h⟩,i⟩,j⟩,?_⟩,?_⟩,m⟩
 ·cases neg
  ·rfl
  have:=k rfl;simp[this]
 cases c
 ·rfl
 have:=l rfl;simp[this.1,this.2]
theorem OF{l:List UInt8}(h:Aq l=true):num l=0↔l=[48]:=by
 constructor
 ·intro e;rw[<-BZ h,e,CG]
 intro e;subst e;rfl
structure IsQ(q:Rat)(neg:Bool)(n d:List UInt8):Prop where
 sign:negQ q=neg
 top:dec q.num.natAbs=n
 bot:dec q.den=d
 topv:q.num.natAbs=num n
 botv:q.den=num d
 fit:fitQ q
def WO{neg:Bool}{n d:List UInt8}(h:okP neg n d c=true)(s:c=false->d=[49]):IsQ (mkRat (sg neg (num n)) (num d)) neg n d:=by
 obtain⟨o,p,u,z,A,B,C⟩:=OG h;have D:num d≠0:=by
  intro e;have g:=(OF p).1 e;cases hf:c
  ·have:=s hf;rw[this]at g;simp at g
  exact(B hf).1 g
 obtain⟨k,i⟩:=Wi (n:=sg neg (num n)) D (by rw[Iw];exact C);have j:(mkRat (sg neg (num n)) (num d)).num.natAbs=num n:=by rw[k,Iw]
 have l:dec (num n)=n:=BZ o;have m:dec (num d)=d:=BZ p;refine⟨?_,by rw[j,l],by rw[i,m],j,i,?_⟩
 ·unfold negQ;rw[k];cases neg
  ·simp[sg]
  have:num n≠0:=λe=>A rfl ((OF o).1 e);simp[sg];omega
 unfold fitQ;rw[j,i,l,m];exact⟨u,z⟩
def Ks{l:List UInt8}(h:prsL l=some q):okP (AS l) (upTo (Ai l)) (denL (Ai l)) (hasS (Ai l))=true/\IsQ q (AS l) (upTo (Ai l)) (denL (Ai l)):=by
 unfold prsL at h
 split at h
 ·rename_i c;have d:=Option.some.inj h;refine⟨c,?_⟩;rw[<-d];exact WO c (λh=>by unfold denL;rw[h];rfl)
 exact absurd h (by simp)
def XW(l:List UInt8):l=(if AS l then [45] else [])++Ai l:=by
 unfold Ai
 split
 ·rename_i h;cases l with
  |nil=>simp[AS]at h
  |cons a l=>simp[AS]at h;simp[h]
 simp
def Fc(l:List UInt8)(h:hasS l=true):l=upTo l++47::Bl l:=by
 induction l with
 |nil=>simp[hasS]at h
 |cons a l ih =>
  by_cases c:a=47
  ·subst c;simp[upTo,Bl]
  have:hasS l=true:=by simpa [hasS,c] using h
  have i:=ih this;have d:upTo (a::l)=a::upTo l:=by simp[upTo,c]
  have g:Bl (a::l)=Bl l:=by simp[Bl,c]
  rw[d,g,List.cons_append,<-i]
theorem Hk(l:List UInt8)(h:hasS l=false):upTo l=l:=by
 induction l with
 |nil=>rfl
 |cons a l ih =>
  simp[hasS]at h;have c:upTo (a::l)=a::upTo l:=by simp[upTo,h.1]
  rw[c,ih (by simp[hasS];exact h.2)]
theorem MX{l:List UInt8}(h:dgts l=true):∀c ∈ l,c≠47/\c≠45:=by
 intro c d;have:=List.all_eq_true.1 h c d;simp[dgt]at this
 constructor
 ·intro e;subst e;simp at this
 intro e;subst e;simp at this
def z0s{n r:List UInt8}(h:∀c ∈ n,c≠47):upTo (n++47::r)=n/\Bl (n++47::r)=r/\hasS (n++47::r)=true:=by
 induction n with
 |nil=>simp[upTo,Bl,hasS]
 |cons a n ih =>
  have d:=h a (by simp);obtain⟨i1,i,j⟩:=ih<|λc g=>h c (by simp[g]);refine⟨?_,?_,by simp[hasS]⟩
  ·rw[List.cons_append];show upTo (a::_)=_;have:upTo (a::(n++47::r))=a::upTo (n++47::r):=by simp[upTo,d]
   rw[this,i1]
  have:Bl (a::(n++47::r))=Bl (n++47::r):=by simp[Bl,d]
  rw[List.cons_append,this,i]
theorem noS{n:List UInt8}(h:∀c ∈ n,c≠47):hasS n=false:=by
 simp[hasS];exact h
def Xw(h:fitQ q):prsL (txtL q)=some q:=by
 obtain⟨d,A⟩:=h;have v1:Aq (dec q.num.natAbs)=true:=Lx (by omega);have G:Aq (dec q.den)=true:=Lx (by omega);have i:∀c ∈ dec q.num.natAbs,c≠47:=λc C=>(MX (Do _) c C).1;have B:∀R:List UInt8,AS ((if negQ q then [45] else [])++(dec q.num.natAbs++R))=negQ q/\Ai ((if negQ q then [45] else [])++(dec q.num.natAbs++R))=dec q.num.natAbs++R:=by
  intro R;have:AS ((if negQ q then [45] else [])++(dec q.num.natAbs++R))=negQ q:=by
   cases j:negQ q
   ·have k:=He q.num.natAbs;have d:=Do q.num.natAbs
    revert k d
    generalize dec q.num.natAbs=l;intro k d;cases l with
    |nil=>simp at k
    |cons a l=>have:=(MX d a (by simp)).2;simp[AS,this]
   simp[AS]
  refine⟨this,?_⟩;unfold Ai;rw[this];cases negQ q<;>simp
 have g:denL (dec q.num.natAbs++(if q.den=1 then [] else 47::dec q.den))=dec q.den/\upTo (dec q.num.natAbs++(if q.den=1 then [] else 47::dec q.den))=dec q.num.natAbs/\
   hasS (dec q.num.natAbs++(if q.den=1 then [] else 47::dec q.den))=decide (q.den≠1):=by
  by_cases j:q.den=1
  ·rw[ifp j,List.append_nil,j];have:=noS i;refine⟨by unfold denL;rw[this,Ch];rfl,Hk _ this,by rw[this];simp⟩
  rw[ifn j];obtain⟨i1,F,m⟩:=z0s (r:=dec q.den) i;exact⟨by unfold denL;rw[m,F];rfl,i1,by rw[m];simp[j]⟩
 obtain⟨u,z⟩:=B (if q.den=1 then [] else 47::dec q.den)
 obtain⟨o,p,s⟩:=g;have D:okP (negQ q) (dec q.num.natAbs) (dec q.den) (decide (q.den≠1))=true:=by
  refine WP v1 G d A ?_ ?_ ?_
  ·intro E e;have:q.num.natAbs=0:=CF<|e.trans CG.symm;simp[negQ]at E;omega
  ·intro hf;simp at hf;refine⟨λe=>?_,λe=>hf ?_⟩
   ·exact q.den_nz (CF (e.trans CG.symm))
   exact CF (e.trans Ch.symm)
  rw[CL,CL];exact q.reduced
 unfold prsL txtL;rw[u,z,o,p,s,ifp D,CL,CL,Ey,Rat.mkRat_self]
theorem Bm(h:fitQ q):prs (txt q)=some q:=by unfold prs txt;rw[AP];exact Xw h
def ZZ{l:List UInt8}(h:prsL l=some q):l=txtL q/\fitQ q:=by
 obtain⟨m,c⟩:=Ks h;refine⟨?_,c.fit⟩;have e:=XW l;have i:=OG m;unfold txtL;rw[c.sign,c.top];have:Ai l=upTo (Ai l)++(if q.den=1 then [] else 47::dec q.den):=by
  cases d:hasS (Ai l)
  ·have g:denL (Ai l)=[49]:=by unfold denL;rw[d];rfl
   have:q.den=1:=CF<|c.bot.trans (g.trans Ch.symm);rw[ifp this,List.append_nil,Hk _ d]
  have g:denL (Ai l)=Bl (Ai l):=by unfold denL;rw[d];rfl
  have:q.den≠1:=by
   intro k;have j:=c.bot;rw[k,Ch]at j;exact(i.2.2.2.2.2.1 d).2 j.symm
  rw[ifn this,c.bot,g];exact Fc _ d
 rw[<-this];exact e
def AX{s:ByteArray}(h:prs s=some q):s=txt q/\fitQ q:=by
 obtain⟨c,d⟩:=ZZ h;exact⟨by unfold txt;rw[<-c,Ej],d⟩
def z1c(c:fitQ p)(d:fitQ q)(h:txt p=txt q):p=q:=by
 have:=Bm c;rw[h,Bm d]at this;exact(Option.some.inj this).symm
def szQ(k:Nat)(q:Rat):Prop:=q.num.natAbs<10 ^ k/\q.den<10 ^ k
theorem FT:fitQ q↔szQ 400 q:=by
 unfold fitQ szQ;rw[Cg,Cg];omega
def szQ.mono{k:Nat}(h:szQ j q)(c:j<=k):szQ k q :=
 ⟨Nat.lt_of_lt_of_le h.1 (Nat.pow_le_pow_right (by omega) c),Nat.lt_of_lt_of_le h.2 (Nat.pow_le_pow_right (by omega) c)⟩
def Wj{n:Int}{d:Nat}(c:d≠0):(mkRat n d).num.natAbs<=n.natAbs/\(mkRat n d).den<=d:=by
 rw[Rat.num_mkRat,Rat.den_mkRat,ifn c,ifn c];exact⟨by rw[Int.natAbs_ediv_of_dvd];exact Nat.div_le_self _ _;exact Int.ofNat_dvd_left.2 (Nat.gcd_dvd_right _ _),Nat.div_le_self _ _⟩
def VO{a b A B:Nat}(c:a<A)(d:b<B):a*b<A*B:=by
 rcases Nat.eq_zero_or_pos b with h|h
 ·subst h;rw[Nat.mul_zero];exact Nat.mul_pos (by omega) (by omega)
 exact Nat.lt_of_lt_of_le (Nat.mul_lt_mul_of_pos_right c h) (Nat.mul_le_mul_left _ (by omega))
def szQ.neg(c:szQ j p):szQ j (-p):=by
 refine⟨?_,?_⟩
 ·rw[Rat.neg_num,Int.natAbs_neg];exact c.1
 rw[Rat.neg_den];exact c.2
def Di(h:fitQ q):(txt q).size<=802:=by
 unfold txt;rw[AI];unfold txtL;obtain⟨c,d⟩:=h;simp only[List.length_append];have:(if negQ q then [45] else ([]:List UInt8)).length<=1:=by split<;>simp
 have:(if q.den=1 then [] else 47::dec q.den).length<=401:=by split<;>simp;omega
 omega
def NT(q:Rat):(limR q).1.size<=802:=by
 unfold limR;split
 ·rename_i h;exact Di h
 rw[AI];simp
def CZ(h:fitQ q):limR q=(txt q,0):=by unfold limR;rw[ifp h]
theorem NS(h:¬fitQ q):limR q=(str [],2):=by unfold limR;rw[ifn h]
def Be(a b:ByteArray):ByteArray × Nat:=match prs a,prs b with|some x,some y=>limR (x+y)|_,_=>(str [],1)
def Cd(a b:ByteArray):ByteArray × Nat:=match prs a,prs b with|some x,some y=>limR (x-y)|_,_=>(str [],1)
def BV(a b:ByteArray):ByteArray × Nat:=match prs a,prs b with|some x,some y=>limR (x*y)|_,_=>(str [],1)
def Bq(a b:ByteArray):ByteArray × Nat:=match prs a,prs b with|some x,some y=>if y=0 then (str [],4) else limR (x / y)|_,_=>(str [],1)
def cmpQ(x y:Rat):Int:=if x<y then -1 else if x=y then 0 else 1
def Bp(a b:ByteArray):Int:=match prs a,prs b with|some x,some y=>cmpQ x y|_,_=>0
def sumF(p:Bool)(a:Nat)(q:Bool)(b:Nat):Bool × Nat:=if p=q then (p,a+b) else if a<b then (q,b-a) else (p,a-b)
theorem Ll(p:Bool)(a:Nat)(q:Bool)(b:Nat):sg (sumF p a q b).1 (sumF p a q b).2=sg p a+sg q b:=by
 unfold sumF sg;cases p<;>cases q<;>simp<;>(try split)<;>(try simp)<;>omega
def Lk(p:Bool)(a:Nat)(q:Bool)(b:Nat):(sumF p a q b).2<=a+b:=by
 unfold sumF;split
 ·exact nlr
 split<;>simp<;>omega
theorem Qe(p q:Bool)(m n:Nat):sg p m*sg q n=sg (p != q) (m*n):=by
 unfold sg;cases p<;>cases q<;>simp[Int.neg_mul,Int.mul_neg]
theorem YM(p:Bool)(m n:Nat):sg p m*(n:Int)=sg p (m*n):=by
 unfold sg;cases p<;>simp[Int.neg_mul]
theorem Le(p:Bool)(m:Nat):sg (!p) m=- sg p m:=by unfold sg;cases p<;>simp
theorem Ft(x:Rat)(d:Nat):x.num*(d:Int)=sg (negQ x) (x.num.natAbs*d):=by
 rw[<-YM,Ey]
theorem LQ(x y:Rat):x+y=mkRat (sg (sumF (negQ x) (x.num.natAbs*y.den) (negQ y) (y.num.natAbs*x.den)).1 (sumF (negQ x) (x.num.natAbs*y.den) (negQ y) (y.num.natAbs*x.den)).2) (x.den*y.den):=by
 rw[Ll,<-Ft,<-Ft,Rat.add_def']
theorem Zp(x y:Rat):x-y=mkRat (sg (sumF (negQ x) (x.num.natAbs*y.den) (!negQ y) (y.num.natAbs*x.den)).1 (sumF (negQ x) (x.num.natAbs*y.den) (!negQ y) (y.num.natAbs*x.den)).2) (x.den*y.den):=by
 rw[Ll,Le,<-Ft,<-Ft,Rat.sub_def',Int.sub_eq_add_neg]
theorem Oq(x y:Rat):x*y=mkRat (sg (negQ x != negQ y) (x.num.natAbs*y.num.natAbs)) (x.den*y.den):=by
 rw[<-Qe,Ey,Ey,Rat.mul_def']
theorem Vx(y:Rat):y⁻¹=mkRat (sg (negQ y) y.den) y.num.natAbs:=by
 rw[Rat.inv_def];have h:=Ey y;unfold sg at h ⊢;cases c:negQ y
 ·rw[c]at h;simp at h;rw[<-h,Rat.divInt_ofNat];simp
 rw[c]at h;simp only[if_true]at h;rw[<-h,Rat.divInt_neg',Rat.divInt_ofNat];simp
def Na(x y:Rat):x / y=mkRat (sg (negQ x != negQ y) (x.num.natAbs*y.den)) (x.den*y.num.natAbs):=by
 rw[Rat.div_def,Vx,<-Qe,Ey]
 conv=>lhs;rw[<-Rat.mkRat_self x]
 rw[Rat.mkRat_mul_mkRat]
theorem MF(x y:Rat):cmpQ x y=if (sumF (negQ x) (x.num.natAbs*y.den) (!negQ y) (y.num.natAbs*x.den)).2=0 then 0 else if (sumF (negQ x) (x.num.natAbs*y.den) (!negQ y) (y.num.natAbs*x.den)).1=true then -1 else 1:=by
 have h:=Ll (negQ x) (x.num.natAbs*y.den) (!negQ y) (y.num.natAbs*x.den);rw[Le,<-Ft,<-Ft]at h;unfold cmpQ;have c:=Rat.lt_iff x y;have g:=Rat.eq_iff_mul_eq_mul (p:=x) (q:=y);generalize sumF (negQ x) (x.num.natAbs*y.den) (!negQ y) (y.num.natAbs*x.den)=r at h ⊢;obtain⟨s,k⟩:=r;simp only at h ⊢;by_cases d:k=0
 ·rw[ifp d];have:sg s k=0:=YN.2 d;rw[ifn (by rw[c];omega),ifp (by rw[g];omega)]
 rw[ifn d];cases s
 ·have:0<sg false k:=by unfold sg;simp;omega
  rw[ifn (by rw[c];omega),ifn (by rw[g];omega)];rfl
 have:sg true k<0:=by unfold sg;simp;omega
 rw[ifp (by rw[c];omega)];rfl
def Oj(z:Int)(d:Nat)(h:d≠0):(mkRat z d).num.natAbs=z.natAbs / Nat.gcd z.natAbs d/\(mkRat z d).den=d / Nat.gcd z.natAbs d/\negQ (mkRat z d)=decide (z<0):=by
 have c:=Rat.num_mkRat z d;have g:=Rat.den_mkRat z d;rw[ifn h,Nat.gcd_comm]at c g;have i:(Nat.gcd z.natAbs d:Int) ∣ z:=Int.ofNat_dvd_left.2<|Nat.gcd_dvd_left _ _;have j:0<Nat.gcd z.natAbs d:=Nat.gcd_pos_of_pos_right _ (Nat.pos_of_ne_zero h);refine⟨?_,g,?_⟩
 ·rw[c,Int.natAbs_ediv_of_dvd i,Int.natAbs_natCast]
 unfold negQ;rw[c];have:z / (Nat.gcd z.natAbs d:Int)<0↔z<0:=by
  rw[Int.ediv_lt_iff_lt_mul (by omega)];simp
 rw[decide_eq_decide];exact this
end
end Go.Proofs.YteappjogmnogcaaGreatDoor
namespace Go.Proofs
open Go.Shelf Tryz
def Tryz.lays169_ren:Go.Shelf.Ren:=⟨fun |169=>235 |n=>n,fun |70=>218 |9=>9 |0=>0 |72=>220 |37=>175 |127=>233 |3=>3 |5=>5 |n=>n,fun |n=>n⟩
theorem Tryz.lays169:Go.Proofs.Lays.n169 Tryz.prog Tryz.lays169_ren:={mixed:=by kernel_rfl,f169:=func235.trans (congrArg some (by kernel_rfl)),t0:=underlying0,a0:=isAgg0,z0:=sizeOf0,v0:=zeroValue0,t3:=underlying3,a3:=isAgg3,z3:=sizeOf3,v3:=zeroValue3,t9:=underlying9,a9:=isAgg9,z9:=sizeOf9,v9:=zeroValue9,t37:=underlying175,a37:=isAgg175,z37:=sizeOf175,v37:=zeroValue175,t70:=underlying218,a70:=isAgg218,z70:=sizeOf218,v70:=zeroValue218,t72:=underlying220,a72:=isAgg220,z72:=sizeOf220,v72:=zeroValue220,t127:=underlying233,a127:=isAgg233,z127:=sizeOf233,v127:=zeroValue233 }
theorem Tryz.Builder_Extra_169:Builder.Extra Tryz.prog Tryz.lays169_ren:={
 sizeBuilder:=by kernel_rfl
 liesBuilder:=by kernel_rfl,t5:=underlying5,a5:=isAgg5,z5:=sizeOf5,v5:=zeroValue5
 infoByte:=by kernel_rfl
 cellsByte:=by kernel_rfl
 sizeByte:=by kernel_rfl
 neB5:=by decide }
open Go.RowKit in
theorem Tryz.Builder_String_any(B b:Nat)(l:List UInt8)(w:World)(h:Lib.IsBuilder 220 5 B b (Lib.byteCells l) w)(hBw:B≤w.heap.size):
  Calls Tryz.prog 235 #[.pointer (some ⟨b,0,none⟩)] w λe w'=>e=.returned (.string ⟨l.toArray⟩)∧Below B w w':=Any.Builder_String_any Tryz.lays169 Tryz.Builder_Extra_169 B b l w h hBw
def Tryz.lays103_ren:Go.Shelf.Ren:=⟨fun |103=>210 |210=>225 |206=>239 |n=>n,fun |9=>9 |4=>4 |24=>203 |3=>3 |n=>n,fun |n=>n⟩
theorem Tryz.lays103:Go.Proofs.Lays.n103 Tryz.prog Tryz.lays103_ren:={mixed:=by kernel_rfl,f103:=func210.trans (congrArg some (by kernel_rfl)),f206:=func239.trans (congrArg some (by kernel_rfl)),f210:=func225.trans (congrArg some (by kernel_rfl)),t3:=underlying3,a3:=isAgg3,z3:=sizeOf3,v3:=zeroValue3,t4:=underlying4,a4:=isAgg4,z4:=sizeOf4,v4:=zeroValue4,t9:=underlying9,a9:=isAgg9,z9:=sizeOf9,v9:=zeroValue9,t24:=underlying203,a24:=isAgg203,z24:=sizeOf203,v24:=zeroValue203 }
open Go.RowKit in
theorem Tryz.strings_CutPrefix(s p:ByteArray)(w:World):
  Calls Tryz.prog 210 #[.string s,.string p] w λe w'=>e=.returned (.tuple #[.string ⟨(Lib.trimPrefix s.data.toList p.data.toList).toArray⟩,.bool (Lib.hasPrefix s.data.toList p.data.toList)])∧w'=w:=Any.strings_CutPrefix Tryz.lays103 s p w
def Tryz.lays215_ren:Go.Shelf.Ren:=⟨fun |215=>241 |n=>n,fun |3=>3 |4=>4 |n=>n,fun |n=>n⟩
def Tryz.lays122_ren:Go.Shelf.Ren:=⟨fun |122=>230 |215=>241 |n=>n,fun |3=>3 |4=>4 |n=>n,fun |n=>n⟩
theorem Tryz.lays122:Go.Proofs.Lays.n122 Tryz.prog Tryz.lays122_ren:={mixed:=by kernel_rfl,f122:=func230.trans (congrArg some (by kernel_rfl)),f215:=func241.trans (congrArg some (by kernel_rfl)),t3:=underlying3,a3:=isAgg3,z3:=sizeOf3,v3:=zeroValue3,t4:=underlying4,a4:=isAgg4,z4:=sizeOf4,v4:=zeroValue4 }
open Go.RowKit in
theorem Tryz.cmp_Compare_int(x y:Int)(w:World):
  Calls Tryz.prog 230 #[.int .i64 x,.int .i64 y] w λe w'=>e=.returned (.int .i64 (Lib.compareInt x y))∧w'=w:=Any.cmp_Compare_int Tryz.lays122 x y w
def Tryz.lays283_ren:Go.Shelf.Ren:=⟨fun |283=>253 |n=>n,fun |3=>3 |9=>9 |4=>4 |n=>n,fun |n=>n⟩
theorem Tryz.lays283:Go.Proofs.Lays.n283 Tryz.prog Tryz.lays283_ren:={mixed:=by kernel_rfl,f283:=func253.trans (congrArg some (by kernel_rfl)),t3:=underlying3,a3:=isAgg3,z3:=sizeOf3,v3:=zeroValue3,t4:=underlying4,a4:=isAgg4,z4:=sizeOf4,v4:=zeroValue4,t9:=underlying9,a9:=isAgg9,z9:=sizeOf9,v9:=zeroValue9 }
open Go.Lib in
theorem Tryz.internal_strconv_small(i:Nat)(h:i < 100)(w:World):
  Calls Tryz.prog 253 #[.int .i64 i] w λe w'=>e=.returned (.string ⟨(Lib.decDigits i).toArray⟩)∧w'=w:=Any.internal_strconv_small Tryz.lays283 i h w
def Tryz.laysM284_ren:Go.Shelf.Ren:=⟨fun |284=>254 |129=>262 |317=>261 |318=>263 |n=>n,fun |53=>179 |3=>3 |212=>243 |0=>0 |4=>4 |46=>83 |5=>5 |9=>9 |n=>n,fun |17=>1 |n=>n⟩
theorem Tryz.laysM284:Go.Proofs.LaysM.n284 Tryz.prog Tryz.laysM284_ren:={mixed:=by kernel_rfl,f129:=func262.trans (congrArg some (by kernel_rfl)),f284:=func254.trans (congrArg some (by kernel_rfl)),f317:=func261.trans (congrArg some (by kernel_rfl)),f318:=func263.trans (congrArg some (by kernel_rfl)),t0:=underlying0,a0:=isAgg0,z0:=sizeOf0,v0:=zeroValue0,t3:=underlying3,a3:=isAgg3,z3:=sizeOf3,v3:=zeroValue3,t4:=underlying4,a4:=isAgg4,z4:=sizeOf4,v4:=zeroValue4,t5:=underlying5,a5:=isAgg5,z5:=sizeOf5,v5:=zeroValue5,t9:=underlying9,a9:=isAgg9,z9:=sizeOf9,v9:=zeroValue9,t46:=underlying83,a46:=isAgg83,z46:=sizeOf83,v46:=zeroValue83,t53:=underlying179,a53:=isAgg179,z53:=sizeOf179,v53:=zeroValue179,t212:=underlying243,a212:=isAgg243,z212:=sizeOf243,v212:=zeroValue243,g17:=by kernel_rfl,i0:=by kernel_rfl,i3:=by kernel_rfl,i4:=by kernel_rfl,i5:=by kernel_rfl,i9:=by kernel_rfl,i46:=by kernel_rfl,i53:=by kernel_rfl,i212:=by kernel_rfl,m17:=by kernel_rfl }
open Go.Lib in
theorem Tryz.internal_strconv_numDigits(u:Nat)(h1:1≤u)(h2:u < 18446744073709551616)(w:World)(htab:Lib.TabIs Tryz.prog w "internal/strconv.uint64pow10" .u64 Lib.pow10Tab) :
  Calls Tryz.prog 254 #[.int .u64 u] w λe w'=>e=.returned (.int .i64 (Lib.nDigits u))∧w'=w:=Any.internal_strconv_numDigits Tryz.laysM284 u h1 h2 w htab
def Tryz.lays285_ren:Go.Shelf.Ren:=⟨fun |285=>255 |n=>n,fun |37=>175 |53=>179 |3=>3 |4=>4 |51=>176 |9=>9 |5=>5 |0=>0 |n=>n,fun |n=>n⟩
theorem Tryz.lays285:Go.Proofs.Lays.n285 Tryz.prog Tryz.lays285_ren:={mixed:=by kernel_rfl,f285:=func255.trans (congrArg some (by kernel_rfl)),t0:=underlying0,a0:=isAgg0,z0:=sizeOf0,v0:=zeroValue0,t3:=underlying3,a3:=isAgg3,z3:=sizeOf3,v3:=zeroValue3,t4:=underlying4,a4:=isAgg4,z4:=sizeOf4,v4:=zeroValue4,t5:=underlying5,a5:=isAgg5,z5:=sizeOf5,v5:=zeroValue5,t9:=underlying9,a9:=isAgg9,z9:=sizeOf9,v9:=zeroValue9,t37:=underlying175,a37:=isAgg175,z37:=sizeOf175,v37:=zeroValue175,t51:=underlying176,a51:=isAgg176,z51:=sizeOf176,v51:=zeroValue176,t53:=underlying179,a53:=isAgg179,z53:=sizeOf179,v53:=zeroValue179 }
open Go.RowKit Go.Sort Go.Lib in
theorem Tryz.internal_strconv_formatBase10(blk off cap:Nat)(u:Nat)(d:Array UInt8)(w:World)(hH:Holds (λ(b:UInt8)=>Value.int .u8 (b.toNat:Int)) w blk off d)(hu:u < 10 ^ d.size)(hu64:u < 18446744073709551616)(hsz:d.size < 4611686018427387904):
  Calls Tryz.prog 255 #[.slice (some ⟨blk,off,none⟩) d.size cap,.int .u64 u] w λe w' =>
   e=.returned (.tuple #[])∧∃(n v':Nat) (dk:Array UInt8),w'=(putRow (λ(b:UInt8)=>Value.int .u8 (b.toNat:Int)) w blk off dk).drewN n∧FmtInv d.size u 0 v' dk:=Any.internal_strconv_formatBase10 Tryz.lays285 blk off cap u d w hH hu hu64 hsz
def Tryz.lays217_ren:Go.Shelf.Ren:=⟨fun |217=>249 |266=>259 |n=>n,fun |9=>9 |5=>5 |3=>3 |n=>n,fun |n=>n⟩
theorem Tryz.lays217:Go.Proofs.Lays.n217 Tryz.prog Tryz.lays217_ren:={mixed:=by kernel_rfl,f217:=func249.trans (congrArg some (by kernel_rfl)),f266:=func259.trans (congrArg some (by kernel_rfl)),t3:=underlying3,a3:=isAgg3,z3:=sizeOf3,v3:=zeroValue3,t5:=underlying5,a5:=isAgg5,z5:=sizeOf5,v5:=zeroValue5,t9:=underlying9,a9:=isAgg9,z9:=sizeOf9,v9:=zeroValue9 }
open Go.RowKit Go.Lib in
theorem Tryz.stringslite_IndexByte(s:ByteArray)(c:Int)(w:World):
  Calls Tryz.prog 249 #[.string s,.int .u8 c] w λe w'=>e=.returned (.int .i64 (Lib.indexByte s.data.toList c.toNat.toUInt8))∧w'=w:=Any.stringslite_IndexByte Tryz.lays217 s c w
def Tryz.lays212_ren:Go.Shelf.Ren:=⟨fun |212=>152 |263=>180 |264=>181 |n=>n,fun |46=>83 |51=>176 |146=>177 |53=>179 |148=>180 |n=>n,fun |n=>n⟩
theorem Tryz.lays212:Go.Proofs.Lays.n212 Tryz.prog Tryz.lays212_ren:={mixed:=by kernel_rfl,f212:=func152.trans (congrArg some (by kernel_rfl)),f263:=func180.trans (congrArg some (by kernel_rfl)),f264:=func181.trans (congrArg some (by kernel_rfl)),t46:=underlying83,a46:=isAgg83,z46:=sizeOf83,v46:=zeroValue83,t51:=underlying176,a51:=isAgg176,z51:=sizeOf176,v51:=zeroValue176,t53:=underlying179,a53:=isAgg179,z53:=sizeOf179,v53:=zeroValue179,t146:=underlying177,a146:=isAgg177,z146:=sizeOf177,v146:=zeroValue177,t148:=underlying180,a148:=isAgg180,z148:=sizeOf180,v148:=zeroValue180 }
open Go.RowKit Go.Lib in
theorem Tryz.bits_Mul(x y:Nat)(hx:x < 18446744073709551616)(hy:y < 18446744073709551616)(w:World):
  Calls Tryz.prog 152 #[.int .u64 x,.int .u64 y] w λe w'=>e=.returned (.tuple #[.int .u64 ((x*y / 18446744073709551616:Nat):Int),.int .u64 ((x*y % 18446744073709551616:Nat):Int)])∧w'=w:=Any.bits_Mul Tryz.lays212 x y hx hy w
def Tryz.lays105_ren:Go.Shelf.Ren:=⟨fun |105=>234 |212=>152 |99=>245 |165=>246 |166=>233 |170=>247 |169=>235 |263=>180 |264=>181 |206=>239 |240=>244 |241=>258 |276=>257 |277=>266 |n=>n,fun |9=>9 |3=>3 |4=>4 |20=>20 |0=>0 |46=>83 |109=>164 |5=>5 |72=>220 |76=>224 |51=>176 |146=>177 |53=>179 |148=>180 |70=>218 |37=>175 |75=>223 |127=>233 |164=>239 |80=>208 |n=>n,fun |n=>n⟩
theorem Tryz.lays105:Go.Proofs.Lays.n105 Tryz.prog Tryz.lays105_ren:={mixed:=by kernel_rfl,f99:=func245.trans (congrArg some (by kernel_rfl)),f105:=func234.trans (congrArg some (by kernel_rfl)),f165:=func246.trans (congrArg some (by kernel_rfl)),f166:=func233.trans (congrArg some (by kernel_rfl)),f169:=func235.trans (congrArg some (by kernel_rfl)),f170:=func247.trans (congrArg some (by kernel_rfl)),f206:=func239.trans (congrArg some (by kernel_rfl)),f212:=func152.trans (congrArg some (by kernel_rfl)),f240:=func244.trans (congrArg some (by kernel_rfl)),f241:=func258.trans (congrArg some (by kernel_rfl)),f263:=func180.trans (congrArg some (by kernel_rfl)),f264:=func181.trans (congrArg some (by kernel_rfl)),f276:=func257.trans (congrArg some (by kernel_rfl)),f277:=func266.trans (congrArg some (by kernel_rfl)),t0:=underlying0,a0:=isAgg0,z0:=sizeOf0,v0:=zeroValue0,t3:=underlying3,a3:=isAgg3,z3:=sizeOf3,v3:=zeroValue3,t4:=underlying4,a4:=isAgg4,z4:=sizeOf4,v4:=zeroValue4,t5:=underlying5,a5:=isAgg5,z5:=sizeOf5,v5:=zeroValue5,t9:=underlying9,a9:=isAgg9,z9:=sizeOf9,v9:=zeroValue9,t20:=underlying20,a20:=isAgg20,z20:=sizeOf20,v20:=zeroValue20,t37:=underlying175,a37:=isAgg175,z37:=sizeOf175,v37:=zeroValue175,t46:=underlying83,a46:=isAgg83,z46:=sizeOf83,v46:=zeroValue83,t51:=underlying176,a51:=isAgg176,z51:=sizeOf176,v51:=zeroValue176,t53:=underlying179,a53:=isAgg179,z53:=sizeOf179,v53:=zeroValue179,t70:=underlying218,a70:=isAgg218,z70:=sizeOf218,v70:=zeroValue218,t72:=underlying220,a72:=isAgg220,z72:=sizeOf220,v72:=zeroValue220,t75:=underlying223,a75:=isAgg223,z75:=sizeOf223,v75:=zeroValue223,t76:=underlying224,a76:=isAgg224,z76:=sizeOf224,v76:=zeroValue224,t109:=underlying164,a109:=isAgg164,z109:=sizeOf164,v109:=zeroValue164,t127:=underlying233,a127:=isAgg233,z127:=sizeOf233,v127:=zeroValue233,t146:=underlying177,a146:=isAgg177,z146:=sizeOf177,v146:=zeroValue177,t148:=underlying180,a148:=isAgg180,z148:=sizeOf180,v148:=zeroValue180,t164:=underlying239,a164:=isAgg239,z164:=sizeOf239,v164:=zeroValue239 }
theorem Tryz.Builder_Extra_105:Builder.Extra Tryz.prog Tryz.lays105_ren:={
 sizeBuilder:=by kernel_rfl
 liesBuilder:=by kernel_rfl,t5:=underlying5,a5:=isAgg5,z5:=sizeOf5,v5:=zeroValue5
 infoByte:=by kernel_rfl
 cellsByte:=by kernel_rfl
 sizeByte:=by kernel_rfl
 neB5:=by decide }
open Go.RowKit Go.Lib in
theorem Tryz.strings_Repeat(s:ByteArray)(c:Nat)(w:World)(hc:c≤9223372036854775807)(hlen:s.size*c≤140737488355328):
  Calls Tryz.prog 234 #[.string s,.int .i64 c] w λe w'=>e=.returned (.string ⟨(Lib.repeatL s.data.toList c).toArray⟩)∧Below w.heap.size w w':=Any.strings_Repeat Tryz.lays105 Tryz.Builder_Extra_105 s c w hc hlen
open Go.RowKit Go.Lib in
theorem Tryz.lays166:Go.Proofs.Lays.n166 Tryz.prog Tryz.lays105_ren:={Tryz.lays105 with }
open Go.RowKit in
theorem Tryz.Builder_WriteString(B b:Nat)(bs:List Value)(s:ByteArray)(w:World)(h:Lib.IsBuilder 220 5 B b bs w)(hlen:bs.length+s.size≤140737488355328)(hBw:B≤w.heap.size):
  Calls Tryz.prog 233 #[.pointer (some ⟨b,0,none⟩),.string s] w λe w'=>e=.returned (.tuple #[.int .i64 s.size,.nilIface])∧(Lib.BuilderAt 220 5 B b (.pointer (some ⟨b,0,none⟩)) (bs++Lib.strCells s) w'∧Below B w w') :=
 Any.Builder_WriteString Tryz.lays166 Tryz.Builder_Extra_105 B b bs s w h hlen hBw
end Go.Proofs
namespace Go.Proofs.YteappjogmnogcaaGreatDoor
set_option maxRecDepth 100000
set_option linter.all false
set_option maxHeartbeats 16000000
open Go Tryz
section
open Go.RowKit Go.Sort
def Tab(w:World):Prop:=Lib.TabIs prog w "internal/strconv.uint64pow10" .u64 Lib.pow10Tab
def Tab.below{B:Nat}{w c:World}(h:Tab w)(hb:Below B w c)(d:w.heap.size<=B):Tab c:=(Lib.tabBelow_of_tabIs h) c (hb.mono d)
def below_grow{B:Nat}{a w:World}(h:Below B a w)(os:Array Obj)(c:B<=w.heap.size):Below B a (grow w os) :=
 h.trans ⟨rfl,rfl,rfl,by simp[grow],λk d=>by
  show (w.heap++os)[k]?=_;rw[Array.getElem?_append_left (by omega)]⟩
abbrev encB:UInt8->Value:=λb=>.int .u8 (b.toNat:Int)
def holds_zero0(w:World)(T:TypeId)(c:Nat)(h:c<=24):Holds encB (w.alloc (.cells Lib.zeros24 T)) w.heap.size 0 (Array.replicate c (0:UInt8)):=λj d=>by
 have g:j<c:=by simpa using d
 refine⟨?_,World.frozen?_alloc_new _ _ _ _⟩;rw[World.cell?_alloc_new,Lib.zeros24_at _ (by omega),getElem!_pos _ j d];simp
def Vb(w:World)(o:Obj)(d:Array UInt8)(k:Nat):∃os,(putRow encB (w.alloc o) w.heap.size 0 d).drewN k=grow (w.drewN k) os:=by
 rw[alloc_eq_grow];obtain⟨c,_,e⟩:=putRow_grow_new encB w #[o] w.heap.size 0 d nlr;exact⟨c,by rw[e];rfl⟩
set_option maxRecDepth 100000 in
theorem Vg(u:Nat)(p:u<18446744073709551616)(w:World)(c:Tab w):
  Calls prog 243 #[.int .u64 (u:Int),.int .i64 10] w λe w'=>e=.returned (.string (str (dec u)))/\Below w.heap.size w w':=by
 by_cases E:u<100
 ·go_enter func243,ntmps243
  go_wp2_with (go_at_call 253;refine(Tryz.internal_strconv_small u E _).mono ?_;rintro e w'⟨rfl,rfl⟩)
  go_ret;exact⟨rfl,blr⟩
 have A:1<=u:=by omega
 have z:Lib.nDigits u<=20:=Lib.nDigits_le20 u p;have m:prog.arrayLen 234=24:=by simp[Program.arrayLen,underlying234]
 have B:∀W,(Instr.sliceAt 234 (.pointer (some (Ad w.heap.size 0))) none (some (.int .i64 (Lib.nDigits u:Int))) none).run prog W=.ok (.slice (some (Ad w.heap.size 0)) (Lib.nDigits u) 24) W:=λW=>by
  rw[run_sliceAt_array_h W 234 (Ad w.heap.size 0) (by simp[Program.arrayLen,Program.elem,underlying234]) .i64 (Lib.nDigits u:Int) (by omega) (by rw[m];omega)];go_simp
 have g:=holds_zero0 w 234 (Lib.nDigits u) (by omega);have d:=Tryz.internal_strconv_formatBase10 w.heap.size 0 24 u (Array.replicate (Lib.nDigits u) 0) (w.alloc (.cells Lib.zeros24 234)) g (by rw[Array.size_replicate];exact Lib.lt_pow_nDigits u) p (by rw[Array.size_replicate];omega);rw[Array.size_replicate]at d;have o:=qh g;clear g m;replace c:=qh c
 go_enter func243,ntmps243
 go_wp2_with (go_at_call 254;refine(Tryz.internal_strconv_numDigits u A p _ (Lib.tabIs_alloc c.o _)).mono ?_;rintro e w'⟨rfl,rfl⟩)
 refine d.mono ?_;rintro e w'⟨rfl,k,F,i,rfl,l⟩;have D:(convert 175 9 (.slice (some (Ad w.heap.size 0)) (Lib.nDigits u) 24)).run prog ((putRow encB (w.alloc (.cells Lib.zeros24 234)) w.heap.size 0 i).drewN k)=.ok (.string ⟨(Lib.decDigits u).toArray⟩) ((putRow encB (w.alloc (.cells Lib.zeros24 234)) w.heap.size 0 i).drewN k):=by
  have h:=run_convert_bytes_back (P:=prog) ((putRow encB (w.alloc (.cells Lib.zeros24 234)) w.heap.size 0 i).drewN k) 175 9 5 (Ad w.heap.size 0) 24 (Lib.decDigits u) underlying175 underlying5 underlying9 (λj s=>by
   rw[Lib.row_is_numeral l j s,Lib.add_plain,World.cell?_drewN];exact cell?_putRow encB _ w.heap.size 0 _ i o.o (by rw[l.size,Array.size_replicate]) j (by rw[l.size];rw[Lib.decDigits_length]at s;exact s))
  rw[Lib.decDigits_length]at h;exact h
 replace l:=qh l;go_wp2;go_ret;obtain⟨os,C⟩:=Vb w (.cells Lib.zeros24 234) i k;refine⟨rfl,?_⟩;have:=below_grow (below_drewN (Below.refl w.heap.size w) k) os nlr;rw[<-C]at this;exact this
def Vf(u:Nat)(d:u<18446744073709551616)(w:World)(c:Tab w):
  Calls prog 232 #[.int .u64 (u:Int),.int .i64 10] w λe w'=>e=.returned (.string (str (dec u)))/\Below w.heap.size w w':=by
 replace c:=qh c
 go_enter func232,ntmps232
 go_wp2_with fail
 refine(Vg u d w c.o).mono ?_;rintro e w'⟨rfl,hb⟩;replace hb:=qh hb;go_wp2;go_ret;exact⟨rfl,hb.o⟩
end
section
open Go.RowKit
def Ho(s:ByteArray)(h:0<s.size):s.toList.isEmpty=false:=by
 rw[Lib.toList_data];cases c:s.data.toList with
 |nil =>
      have:s.size=0:=by rw[<-Ap,bts,c];rfl
      omega
 |cons a l=>rfl
def Kh(s:ByteArray)(h:0<s.size):¬s.toList=[]:=by
 have:=Ho s h;intro e;rw[e]at this;simp at this
def WC(s:ByteArray)(h:s.size=0):s.toList=[]:=by
 rw[Lib.toList_data];exact List.length_eq_zero_iff.1 (by have:=Ap s;unfold bts at this;omega)
def QW(c:UInt8)(h:c≠48):((c.toNat:Int)==48)=false:=by
 rw[beq_eq_false_iff_ne];intro e;apply h;apply UInt8.toNat_inj.1;show c.toNat=48;omega
def MW{c:UInt8}(d:(48:Int)<=(c.toNat:Int))(g:(c.toNat:Int)<=57):dgt c=true:=by
 simp[dgt];omega
def MV{c:UInt8}(d:(c.toNat:Int)<48):dgt c=false:=by simp[dgt];omega
def MU{c:UInt8}(d:(57:Int)<(c.toNat:Int)):dgt c=false:=by simp[dgt];omega
def z0h(s:ByteArray)(w:World)(l:1<=s.size)(C:s.size<=1000)(u:s.size=1\/(bts s).headD 0≠48):
  Calls prog 204 #[.string s] w λe w'=>e=.returned (.bool (dgts (bts s)))/\w=w':=by
 have p:s.toList.isEmpty=false:=Ho s l;have o:¬s.toList=[]:=Kh s l;have A:0<s.size:=by omega
 have z:decide ((1000:Int)<(s.size:Int))=false:=by simp;omega
 by_cases F:s.size=1
 all_goals
  have m:1<s.size->((s[0].toNat:Int)==48)=false:=λh=>QW _ (by
                                            rw[<-FW s A];rcases u with j|j;· omega
                                            exact j)
  try have D:=m (by omega)
  clear m
  go_enter func204,ntmps204
  go_wp2;clear o p z
  go_loop [23] (λi=>∃k:Nat,k<=s.size/\i=.int .i64 k/\dgts ((bts s).take k)=true) (λi=>s.size-(intOf i).toNat)
  case atStart=>exact⟨0,Nat.zero_le _,rfl,rfl⟩
  obtain⟨k,E,rfl,g⟩:=hrel;replace g:=qh g;by_cases c:k<s.size
  ·go_wp2
   ·have d:(57:Int)<(s[k].toNat:Int):=by omega
    go_ret;exact⟨Az (Hf s k c (MU d)).symm,rfl⟩
   ·have d:(48:Int)<=(s[k].toNat:Int):=by omega
    have B:(s[k].toNat:Int)<=57:=by omega
    go_round
    case rel=>exact⟨k+1,by omega,by go_num,by rw[FA s k c,Ea,g.o,MW d B];rfl⟩
    simp[intOf];omega
   have d:(s[k].toNat:Int)<48:=by assumption
   go_ret;exact⟨Az (Hf s k c (MV d)).symm,rfl⟩
  go_wp2;go_ret;exact⟨Az (by rw[<-g.o,List.take_of_length_le (by rw[Ap];omega)]),rfl⟩
def z0k(s:ByteArray)(w:World)(m:s.size<=maxLen):
  Calls prog 204 #[.string s] w λe w'=>e=.returned (.bool (Aq (bts s)))/\w=w':=by
 unfold maxLen at m;by_cases j:s.size=0
 ·have c:Aq (bts s)=false:=by simp[Aq,Ap,j]
  have i:=WC s j;have g:=qh c;clear c
  go_enter func204,ntmps204
  go_wp2;go_ret;exact⟨Az g.o.symm,rfl⟩
 by_cases z:1000<s.size
 ·have c:Aq (bts s)=false:=by simp[Aq,Ap];intros;omega
  have g:=qh c;clear c;have c:s.toList.isEmpty=false:=Ho s (by omega);have i:¬s.toList=[]:=Kh s (by omega)
  go_enter func204,ntmps204
  go_wp2;go_ret;exact⟨Az g.o.symm,rfl⟩
 by_cases d:s.size=1\/(bts s).headD 0≠48
 ·refine(z0h s w (by omega) (by omega) d).mono λe w' ⟨l,u⟩=>⟨?_,u⟩;rw[l];have:Aq (bts s)=dgts (bts s):=by
   cases k:dgts (bts s) with
   |false=>simp[Aq,k]
   |true=>exact IM (by rw[Ap];omega) (by rw[Ap];omega) (by rw[Ap];exact d) k
  rw[this]
 have c:Aq (bts s)=false:=by
  cases p:Aq (bts s) with
  |false=>rfl
  |true=>exact absurd (by have:=(Bf p).2.2.1;rw[Ap]at this;exact this) d
 have g:=qh c;clear c;have o:0<s.size:=by omega
 have c:s.toList.isEmpty=false:=Ho s (by omega);have i:¬s.toList=[]:=Kh s (by omega);have B:((s[0].toNat:Int)==48)=true:=by
  have:(bts s).headD 0=48:=by
   by_cases h:(bts s).headD 0=48
   ·exact h
   exact absurd (Or.inr h) d
  rw[FW s o]at this;rw[this];rfl
 have C:1<s.size:=by
  by_cases h:s.size=1
  ·exact absurd (Or.inl h) d
  omega
 have A:decide ((1000:Int)<(s.size:Int))=false:=by simp;omega
 clear d
 go_enter func204,ntmps204
 go_wp2;go_ret;exact⟨Az g.o.symm,rfl⟩
def nvS(b:Bool)(n d:ByteArray):Value:=.agg #[.bool b,.string n,.string d]
def nv(q:Rat):Value:=nvS (negQ q) (str (dec q.num.natAbs)) (str (dec q.den))
def txtS(b:Bool)(n d:ByteArray):ByteArray :=
 let s:=if b then (⟨#[45]⟩:ByteArray)++n else n
 if d=⟨#[49]⟩ then s else s++((⟨#[47]⟩:ByteArray)++d)
def Ov{s t:ByteArray}(h:s≠t):¬s.toList=t.toList:=by
 rw[Lib.toList_data,Lib.toList_data];intro e;apply h;exact Dm e
def BU{s:ByteArray}{l:List UInt8}(h:s≠str l):(s.toList==l)=false:=by
 rw[beq_eq_false_iff_ne,Lib.toList_data];intro e;apply h;rw[<-e];exact(Ej s).symm
theorem Jj(s t:ByteArray):bts (s++t)=bts s++bts t:=by
 show (s++t).data.toList=_;rw[ByteArray.data_append,Array.toList_append];rfl
theorem QV(q:Rat):txtS (negQ q) (str (dec q.num.natAbs)) (str (dec q.den))=txt q:=by
 apply Dm
 have c:(str (dec q.den)=⟨#[49]⟩)↔q.den=1:=by
  constructor
  ·intro e;have:=congrArg bts e;rw[AP]at this;exact CF<|this.trans Ch.symm
  intro e;rw[e,Ch];rfl
 unfold txtS txt txtL;rw[AP];by_cases h:q.den=1
 ·rw[ifp (c.2 h),ifp h];cases negQ q
  ·simp[AP]
  simp only[if_true,Jj,AP];simp[bts]
 rw[ifn (λe=>h (c.1 e)),ifn h];cases negQ q
 ·simp only[Bool.false_eq_true,if_false,Jj,AP];simp[bts]
 simp only[if_true,Jj,AP];simp[bts]
theorem WM(b:Bool)(n d:ByteArray)(w:World)(hn:n.size<=400)(g:d.size<=400):
  Calls prog 218 #[nvS b n d] w λe w'=>e=.returned (.string (txtS b n d))/\Below w.heap.size w w':=by
 have i:(n.size:Int)<=8388608:=by omega
 have j:(d.size:Int)<=8388608:=by omega
 clear hn g;have c:Below w.heap.size w (w.alloc (.cells #[.bool b,.string n,.string d] 189)):=blr.alloc nlr _;replace c:=qh c;unfold nvS;by_cases h:d=⟨#[49]⟩
 ·subst h;cases b<;>simp only[txtS,if_true,if_false,Bool.false_eq_true]
  all_goals
   go_enter func218,ntmps218
   go_wp2;go_ret;exact⟨rfl,c.o⟩
 have k:(d.toList==[49])=false:=BU h;cases b<;>simp only[txtS,if_true,if_false,Bool.false_eq_true]<;>rw[ifn h]<;>clear h
 ·go_enter func218,ntmps218
  go_wp2;go_ret;exact⟨rfl,c.o⟩
 have l:(((⟨#[45]⟩:ByteArray)++n).size:Int)<=8388609:=by rw[ByteArray.size_append];show ((1+n.size:Nat):Int)<=_;omega
 go_enter func218,ntmps218
 go_wp2;go_ret;exact⟨rfl,c.o⟩
def WL(q:Rat)(w:World)(h:fitQ q):
  Calls prog 218 #[nv q] w λe w'=>e=.returned (.string (txt q))/\Below w.heap.size w w':=by
 rw[<-QV];exact WM _ _ _ w (by rw[AI];exact h.1) (by rw[AI];exact h.2)
def Bd(c:ByteArray)(w:World):Calls prog 188 #[.string c,.int .i64 0] w λe w'=>e=.returned (.string c)/\w=w':=by
 go_enter func188,ntmps188
 go_wp2;go_ret;exact⟨rfl,rfl⟩
end
end Go.Proofs.YteappjogmnogcaaGreatDoor
