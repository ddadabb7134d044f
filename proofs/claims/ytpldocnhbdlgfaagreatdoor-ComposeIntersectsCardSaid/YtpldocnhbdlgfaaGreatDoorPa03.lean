/- Parts. -/
import Derived.Test.YtpldocnhbdlgfaaGreatDoorPa02
import Derived.Lib.AppendIntMem
namespace Go.Proofs.YtpldocnhbdlgfaaGreatDoor
set_option maxRecDepth 100000
set_option linter.all false
set_option maxHeartbeats 16000000
open Go Tryz
section
variable{p q:Rat}{c:Bool}{j m:Nat}
def AP(l:List UInt8):Bool:=l.headD 0==45
def Al(l:List UInt8):List UInt8:=if AP l then l.tail else l
def hasS(l:List UInt8):Bool:=l.any (·==47)
def upTo(l:List UInt8):List UInt8:=l.takeWhile (· != 47)
def Bj(l:List UInt8):List UInt8:=(l.dropWhile (· != 47)).tail
def denL(l:List UInt8):List UInt8:=if hasS l then Bj l else [49]
def okP(neg:Bool)(n d:List UInt8)(frac:Bool):Bool :=
 As n&&As d&&decide (n.length<=400)&&decide (d.length<=400)&&!(neg&&(n==[48]))&&!(frac&&(d==[48]||d==[49]))&&decide (Nat.gcd (num n) (num d)=1)
def sg(neg:Bool)(m:Nat):Int:=if neg then -(m:Int) else (m:Int)
def prsL(l:List UInt8):Option Rat :=
 if okP (AP l) (upTo (Al l)) (denL (Al l)) (hasS (Al l)) then some (mkRat (sg (AP l) (num (upTo (Al l)))) (num (denL (Al l)))) else none
def prs(s:ByteArray):Option Rat:=prsL<|bts s
def fitQ(q:Rat):Prop:=(dec q.num.natAbs).length<=400/\(dec q.den).length<=400
instance (q:Rat):Decidable (fitQ q):=inferInstanceAs<|Decidable (_/\_)
def negQ(q:Rat):Bool:=decide<|q.num<0
def txtL(q:Rat):List UInt8:=(if negQ q then [45] else [])++(dec q.num.natAbs++(if q.den=1 then [] else 47::dec q.den))
def txt(q:Rat):ByteArray:=str<|txtL q
def limR(q:Rat):ByteArray × Nat:=if fitQ q then (txt q,0) else (str [],2)
theorem IA(neg:Bool)(m:Nat):(sg neg m).natAbs=m:=by unfold sg;split<;>simp
def Xs{neg:Bool}:sg neg m=0↔m=0:=by unfold sg;split<;>omega
theorem IB{neg:Bool}:sg neg m<0↔(neg=true/\m≠0):=by unfold sg;cases neg<;>simp<;>omega
theorem Ew(q:Rat):sg (negQ q) q.num.natAbs=q.num:=by unfold sg negQ;by_cases h:q.num<0<;>simp[h]<;>omega
def UU{n:Int}{d:Nat}(hd:d≠0)(h:Nat.gcd n.natAbs d=1):(mkRat n d).num=n/\(mkRat n d).den=d:=by
 have:=Rat.mk_eq_mkRat n d hd h;rw[<-this];exact⟨rfl,rfl⟩
theorem Cz:dec 0=[48]:=by rw[By (by omega)];rfl
theorem Cd:dec 1=[49]:=by rw[By (by omega)];rfl
def Oh{neg:Bool}{n d:List UInt8}(h:okP neg n d c=true):
  As n=true/\As d=true/\n.length<=400/\d.length<=400/\(neg=true->n≠[48])/\(c=true->d≠[48]/\d≠[49])/\Nat.gcd (num n) (num d)=1:=by
 simp only[okP,Bool.and_eq_true,Bool.not_eq_true',decide_eq_true_eq]at h;obtain⟨⟨⟨⟨⟨⟨i,j⟩,k⟩,l⟩,m⟩,g⟩,o⟩:=h;refine⟨i,j,k,l,?_,?_,o⟩
 ·intro p e;subst p;subst e;simp at m
 intro hf;subst hf;simp at g;exact g
def Vx{neg:Bool}{n d:List UInt8}(g:As n=true)(h:As d=true)(i:n.length<=400)(j:d.length<=400)
  (k:neg=true->n≠[48]) (l:c=true->d≠[48]/\d≠[49]) (m:Nat.gcd (num n) (num d)=1):okP neg n d c=true:=by
 simp only[okP,Bool.and_eq_true,Bool.not_eq_true',decide_eq_true_eq];refine⟨⟨⟨⟨⟨⟨g,h⟩,i⟩,j⟩,?_⟩,?_⟩,m⟩
 ·cases neg
  ·rfl
  have:=k rfl;simp[this]
 cases c
 ·rfl
 have:=l rfl;simp[this.1,this.2]
theorem Of{l:List UInt8}(h:As l=true):num l=0↔l=[48]:=by
 constructor
 ·intro e;rw[<-BV h,e,Cz]
 intro e;subst e;rfl
structure IsQ(q:Rat)(neg:Bool)(n d:List UInt8):Prop where
 sign:negQ q=neg
 top:dec q.num.natAbs=n
 bot:dec q.den=d
 topv:q.num.natAbs=num n
 botv:q.den=num d
 fit:fitQ q
def Vw{neg:Bool}{n d:List UInt8}(h:okP neg n d c=true)(s:c=false->d=[49]):IsQ (mkRat (sg neg (num n)) (num d)) neg n d:=by
 obtain⟨o,p,u,z,A,B,C⟩:=Oh h;have hd:num d≠0:=by
  intro e;have g:=(Of p).1 e;cases hf:c
  ·have:=s hf;rw[this]at g;simp at g
  exact(B hf).1 g
 obtain⟨k,i⟩:=UU (n:=sg neg (num n)) hd (by rw[IA];exact C);have j:(mkRat (sg neg (num n)) (num d)).num.natAbs=num n:=by rw[k,IA]
 have l:dec (num n)=n:=BV o;have m:dec (num d)=d:=BV p;refine⟨?_,by rw[j,l],by rw[i,m],j,i,?_⟩
 ·unfold negQ;rw[k];cases neg
  ·simp[sg]
  have:num n≠0:=λe=>A rfl ((Of o).1 e);simp[sg];omega
 unfold fitQ;rw[j,i,l,m];exact⟨u,z⟩
def Kq{l:List UInt8}(h:prsL l=some q):okP (AP l) (upTo (Al l)) (denL (Al l)) (hasS (Al l))=true/\IsQ q (AP l) (upTo (Al l)) (denL (Al l)):=by
 unfold prsL at h
 split at h
 ·rename_i c;have d:=Option.some.inj h;refine⟨c,?_⟩;rw[<-d];exact Vw c (λh=>by unfold denL;rw[h];rfl)
 exact absurd h (by simp)
def WI(l:List UInt8):l=(if AP l then [45] else [])++Al l:=by
 unfold Al
 split
 ·rename_i h;cases l with
  |nil=>simp[AP]at h
  |cons a l=>simp[AP]at h;simp[h]
 simp
def Fc(l:List UInt8)(h:hasS l=true):l=upTo l++47::Bj l:=by
 induction l with
 |nil=>simp[hasS]at h
 |cons a l ih =>
  by_cases c:a=47
  ·subst c;simp[upTo,Bj]
  have:hasS l=true:=by simpa [hasS,c] using h
  have i:=ih this;have d:upTo (a::l)=a::upTo l:=by simp[upTo,c]
  have g:Bj (a::l)=Bj l:=by simp[Bj,c]
  rw[d,g,List.cons_append,<-i]
theorem Hp(l:List UInt8)(h:hasS l=false):upTo l=l:=by
 induction l with
 |nil=>rfl
 |cons a l ih =>
  simp[hasS]at h;have c:upTo (a::l)=a::upTo l:=by simp[upTo,h.1]
  rw[c,ih (by simp[hasS];exact h.2)]
theorem ME{l:List UInt8}(h:dgts l=true):∀c ∈ l,c≠47/\c≠45:=by
 intro c d;have:=List.all_eq_true.1 h c d;simp[dgt]at this
 constructor
 ·intro e;subst e;simp at this
 intro e;subst e;simp at this
def YD{n r:List UInt8}(h:∀c ∈ n,c≠47):upTo (n++47::r)=n/\Bj (n++47::r)=r/\hasS (n++47::r)=true:=by
 induction n with
 |nil=>simp[upTo,Bj,hasS]
 |cons a n ih =>
  have d:=h a (by simp);obtain⟨i1,i,j⟩:=ih<|λc g=>h c (by simp[g]);refine⟨?_,?_,by simp[hasS]⟩
  ·rw[List.cons_append];show upTo (a::_)=_;have:upTo (a::(n++47::r))=a::upTo (n++47::r):=by simp[upTo,d]
   rw[this,i1]
  have:Bj (a::(n++47::r))=Bj (n++47::r):=by simp[Bj,d]
  rw[List.cons_append,this,i]
theorem noS{n:List UInt8}(h:∀c ∈ n,c≠47):hasS n=false:=by
 simp[hasS];exact h
def Wl(h:fitQ q):prsL (txtL q)=some q:=by
 obtain⟨d,A⟩:=h;have v1:As (dec q.num.natAbs)=true:=Lp (by omega);have G:As (dec q.den)=true:=Lp (by omega);have i:∀c ∈ dec q.num.natAbs,c≠47:=λc C=>(ME (CX _) c C).1;have B:∀R:List UInt8,AP ((if negQ q then [45] else [])++(dec q.num.natAbs++R))=negQ q/\Al ((if negQ q then [45] else [])++(dec q.num.natAbs++R))=dec q.num.natAbs++R:=by
  intro R;have:AP ((if negQ q then [45] else [])++(dec q.num.natAbs++R))=negQ q:=by
   cases j:negQ q
   ·have k:=ET q.num.natAbs;have d:=CX q.num.natAbs
    revert k d
    generalize dec q.num.natAbs=l;intro k d;cases l with
    |nil=>simp at k
    |cons a l=>have:=(ME d a (by simp)).2;simp[AP,this]
   simp[AP]
  refine⟨this,?_⟩;unfold Al;rw[this];cases negQ q<;>simp
 have g:denL (dec q.num.natAbs++(if q.den=1 then [] else 47::dec q.den))=dec q.den/\upTo (dec q.num.natAbs++(if q.den=1 then [] else 47::dec q.den))=dec q.num.natAbs/\
   hasS (dec q.num.natAbs++(if q.den=1 then [] else 47::dec q.den))=decide (q.den≠1):=by
  by_cases j:q.den=1
  ·rw[ifp j,List.append_nil,j];have:=noS i;refine⟨by unfold denL;rw[this,Cd];rfl,Hp _ this,by rw[this];simp⟩
  rw[ifn j];obtain⟨i1,F,m⟩:=YD (r:=dec q.den) i;exact⟨by unfold denL;rw[m,F];rfl,i1,by rw[m];simp[j]⟩
 obtain⟨u,z⟩:=B (if q.den=1 then [] else 47::dec q.den)
 obtain⟨o,p,s⟩:=g;have D:okP (negQ q) (dec q.num.natAbs) (dec q.den) (decide (q.den≠1))=true:=by
  refine Vx v1 G d A ?_ ?_ ?_
  ·intro E e;have:q.num.natAbs=0:=Cy<|e.trans Cz.symm;simp[negQ]at E;omega
  ·intro hf;simp at hf;refine⟨λe=>?_,λe=>hf ?_⟩
   ·exact q.den_nz (Cy (e.trans Cz.symm))
   exact Cy (e.trans Cd.symm)
  rw[CH,CH];exact q.reduced
 unfold prsL txtL;rw[u,z,o,p,s,ifp D,CH,CH,Ew,Rat.mkRat_self]
theorem Bl(h:fitQ q):prs (txt q)=some q:=by unfold prs txt;rw[AL];exact Wl h
def Yu{l:List UInt8}(h:prsL l=some q):l=txtL q/\fitQ q:=by
 obtain⟨k,c⟩:=Kq h;refine⟨?_,c.fit⟩;have e:=WI l;have g:=Oh k;unfold txtL;rw[c.sign,c.top];have:Al l=upTo (Al l)++(if q.den=1 then [] else 47::dec q.den):=by
  cases d:hasS (Al l)
  ·have hd:denL (Al l)=[49]:=by unfold denL;rw[d];rfl
   have:q.den=1:=Cy<|c.bot.trans (hd.trans Cd.symm);rw[ifp this,List.append_nil,Hp _ d]
  have hd:denL (Al l)=Bj (Al l):=by unfold denL;rw[d];rfl
  have:q.den≠1:=by
   intro j;have i:=c.bot;rw[j,Cd]at i;exact(g.2.2.2.2.2.1 d).2 i.symm
  rw[ifn this,c.bot,hd];exact Fc _ d
 rw[<-this];exact e
def AT{s:ByteArray}(h:prs s=some q):s=txt q/\fitQ q:=by
 obtain⟨c,d⟩:=Yu h;exact⟨by unfold txt;rw[<-c,Ei],d⟩
def Yw(c:fitQ p)(d:fitQ q)(h:txt p=txt q):p=q:=by
 have:=Bl c;rw[h,Bl d]at this;exact(Option.some.inj this).symm
def szQ(k:Nat)(q:Rat):Prop:=q.num.natAbs<10 ^ k/\q.den<10 ^ k
theorem EX:fitQ q↔szQ 400 q:=by
 unfold fitQ szQ;rw[BK,BK];omega
def szQ.mono{k:Nat}(h:szQ j q)(c:j<=k):szQ k q :=
 ⟨Nat.lt_of_lt_of_le h.1 (Nat.pow_le_pow_right (by omega) c),Nat.lt_of_lt_of_le h.2 (Nat.pow_le_pow_right (by omega) c)⟩
def NG{n:Int}{d:Nat}(hd:d≠0):(mkRat n d).num.natAbs<=n.natAbs/\(mkRat n d).den<=d:=by
 rw[Rat.num_mkRat,Rat.den_mkRat,ifn hd,ifn hd];exact⟨by rw[Int.natAbs_ediv_of_dvd];exact Nat.div_le_self _ _;exact Int.ofNat_dvd_left.2 (Nat.gcd_dvd_right _ _),Nat.div_le_self _ _⟩
def UH{a b A B:Nat}(c:a<A)(d:b<B):a*b<A*B:=by
 rcases Nat.eq_zero_or_pos b with h|h
 ·subst h;rw[Nat.mul_zero];exact Nat.mul_pos (by omega) (by omega)
 exact Nat.lt_of_lt_of_le (Nat.mul_lt_mul_of_pos_right c h) (Nat.mul_le_mul_left _ (by omega))
def szQ.neg(c:szQ j p):szQ j (-p):=by
 refine⟨?_,?_⟩
 ·rw[Rat.neg_num,Int.natAbs_neg];exact c.1
 rw[Rat.neg_den];exact c.2
def Dg(h:fitQ q):(txt q).size<=802:=by
 unfold txt;rw[AH];unfold txtL;obtain⟨c,d⟩:=h;simp only[List.length_append];have:(if negQ q then [45] else ([]:List UInt8)).length<=1:=by split<;>simp
 have:(if q.den=1 then [] else 47::dec q.den).length<=401:=by split<;>simp;omega
 omega
def Nq(q:Rat):(limR q).1.size<=802:=by
 unfold limR;split
 ·rename_i h;exact Dg h
 rw[AH];simp
def CZ(h:fitQ q):limR q=(txt q,0):=by unfold limR;rw[ifp h]
theorem Np(h:¬fitQ q):limR q=(str [],2):=by unfold limR;rw[ifn h]
def Bb(a b:ByteArray):ByteArray × Nat:=match prs a,prs b with|some x,some y=>limR (x+y)|_,_=>(str [],1)
def Cb(a b:ByteArray):ByteArray × Nat:=match prs a,prs b with|some x,some y=>limR (x-y)|_,_=>(str [],1)
def BR(a b:ByteArray):ByteArray × Nat:=match prs a,prs b with|some x,some y=>limR (x*y)|_,_=>(str [],1)
def Bq(a b:ByteArray):ByteArray × Nat:=match prs a,prs b with|some x,some y=>if y=0 then (str [],4) else limR (x / y)|_,_=>(str [],1)
def cmpQ(x y:Rat):Int:=if x<y then -1 else if x=y then 0 else 1
def Bp(a b:ByteArray):Int:=match prs a,prs b with|some x,some y=>cmpQ x y|_,_=>0
def sumF(p:Bool)(a:Nat)(q:Bool)(b:Nat):Bool × Nat:=if p=q then (p,a+b) else if a<b then (q,b-a) else (p,a-b)
theorem Ld(p:Bool)(a:Nat)(q:Bool)(b:Nat):sg (sumF p a q b).1 (sumF p a q b).2=sg p a+sg q b:=by
 unfold sumF sg;cases p<;>cases q<;>simp<;>(try split)<;>(try simp)<;>omega
def Lb(p:Bool)(a:Nat)(q:Bool)(b:Nat):(sumF p a q b).2<=a+b:=by
 unfold sumF;split
 ·exact nlr
 split<;>simp<;>omega
theorem Pu(p q:Bool)(m n:Nat):sg p m*sg q n=sg (p != q) (m*n):=by
 unfold sg;cases p<;>cases q<;>simp[Int.neg_mul,Int.mul_neg]
theorem Xr(p:Bool)(m n:Nat):sg p m*(n:Int)=sg p (m*n):=by
 unfold sg;cases p<;>simp[Int.neg_mul]
theorem KW(p:Bool)(m:Nat):sg (!p) m=- sg p m:=by unfold sg;cases p<;>simp
theorem Fu(x:Rat)(d:Nat):x.num*(d:Int)=sg (negQ x) (x.num.natAbs*d):=by
 rw[<-Xr,Ew]
theorem LM(x y:Rat):x+y=mkRat (sg (sumF (negQ x) (x.num.natAbs*y.den) (negQ y) (y.num.natAbs*x.den)).1 (sumF (negQ x) (x.num.natAbs*y.den) (negQ y) (y.num.natAbs*x.den)).2) (x.den*y.den):=by
 rw[Ld,<-Fu,<-Fu,Rat.add_def']
theorem XO(x y:Rat):x-y=mkRat (sg (sumF (negQ x) (x.num.natAbs*y.den) (!negQ y) (y.num.natAbs*x.den)).1 (sumF (negQ x) (x.num.natAbs*y.den) (!negQ y) (y.num.natAbs*x.den)).2) (x.den*y.den):=by
 rw[Ld,KW,<-Fu,<-Fu,Rat.sub_def',Int.sub_eq_add_neg]
theorem NN(x y:Rat):x*y=mkRat (sg (negQ x != negQ y) (x.num.natAbs*y.num.natAbs)) (x.den*y.den):=by
 rw[<-Pu,Ew,Ew,Rat.mul_def']
theorem Uo(y:Rat):y⁻¹=mkRat (sg (negQ y) y.den) y.num.natAbs:=by
 rw[Rat.inv_def];have h:=Ew y;unfold sg at h ⊢;cases c:negQ y
 ·rw[c]at h;simp at h;rw[<-h,Rat.divInt_ofNat];simp
 rw[c]at h;simp only[if_true]at h;rw[<-h,Rat.divInt_neg',Rat.divInt_ofNat];simp
def MH(x y:Rat):x / y=mkRat (sg (negQ x != negQ y) (x.num.natAbs*y.den)) (x.den*y.num.natAbs):=by
 rw[Rat.div_def,Uo,<-Pu,Ew]
 conv=>lhs;rw[<-Rat.mkRat_self x]
 rw[Rat.mkRat_mul_mkRat]
theorem Ms(x y:Rat):cmpQ x y=if (sumF (negQ x) (x.num.natAbs*y.den) (!negQ y) (y.num.natAbs*x.den)).2=0 then 0 else if (sumF (negQ x) (x.num.natAbs*y.den) (!negQ y) (y.num.natAbs*x.den)).1=true then -1 else 1:=by
 have h:=Ld (negQ x) (x.num.natAbs*y.den) (!negQ y) (y.num.natAbs*x.den);rw[KW,<-Fu,<-Fu]at h;unfold cmpQ;have c:=Rat.lt_iff x y;have g:=Rat.eq_iff_mul_eq_mul (p:=x) (q:=y);generalize sumF (negQ x) (x.num.natAbs*y.den) (!negQ y) (y.num.natAbs*x.den)=r at h ⊢;obtain⟨s,k⟩:=r;simp only at h ⊢;by_cases d:k=0
 ·rw[ifp d];have:sg s k=0:=Xs.2 d;rw[ifn (by rw[c];omega),ifp (by rw[g];omega)]
 rw[ifn d];cases s
 ·have:0<sg false k:=by unfold sg;simp;omega
  rw[ifn (by rw[c];omega),ifn (by rw[g];omega)];rfl
 have:sg true k<0:=by unfold sg;simp;omega
 rw[ifp (by rw[c];omega)];rfl
def NH(z:Int)(d:Nat)(hd:d≠0):(mkRat z d).num.natAbs=z.natAbs / Nat.gcd z.natAbs d/\(mkRat z d).den=d / Nat.gcd z.natAbs d/\negQ (mkRat z d)=decide (z<0):=by
 have c:=Rat.num_mkRat z d;have g:=Rat.den_mkRat z d;rw[ifn hd,Nat.gcd_comm]at c g;have h:(Nat.gcd z.natAbs d:Int) ∣ z:=Int.ofNat_dvd_left.2<|Nat.gcd_dvd_left _ _;have i:0<Nat.gcd z.natAbs d:=Nat.gcd_pos_of_pos_right _ (Nat.pos_of_ne_zero hd);refine⟨?_,g,?_⟩
 ·rw[c,Int.natAbs_ediv_of_dvd h,Int.natAbs_natCast]
 unfold negQ;rw[c];have:z / (Nat.gcd z.natAbs d:Int)<0↔z<0:=by
  rw[Int.ediv_lt_iff_lt_mul (by omega)];simp
 rw[decide_eq_decide];exact this
end
section
open Go.RowKit Go.Sort
def Tab(w:World):Prop:=Lib.TabIs prog w "internal/strconv.uint64pow10" .u64 Lib.pow10Tab
def Tab.below{B:Nat}{w w':World}(h:Tab w)(hb:Below B w w')(c:w.heap.size<=B):Tab w':=(Lib.tabBelow_of_tabIs h) w' (hb.mono c)
def below_grow{B:Nat}{a w:World}(h:Below B a w)(os:Array Obj)(c:B<=w.heap.size):Below B a (grow w os) :=
 h.trans ⟨rfl,rfl,rfl,by simp[grow],λk d=>by
  show (w.heap++os)[k]?=_;rw[Array.getElem?_append_left (by omega)]⟩
abbrev encB:UInt8->Value:=λb=>.int .u8 (b.toNat:Int)
def holds_zero0(w:World)(T:TypeId)(nd:Nat)(g:nd<=24):Holds encB (w.alloc (.cells Lib.zeros24 T)) w.heap.size 0 (Array.replicate nd (0:UInt8)):=λj c=>by
 have d:j<nd:=by simpa using c
 refine⟨?_,World.frozen?_alloc_new _ _ _ _⟩;rw[World.cell?_alloc_new,Lib.zeros24_at _ (by omega),getElem!_pos _ j c];simp
def TS(w:World)(o:Obj)(d:Array UInt8)(k:Nat):∃os,(putRow encB (w.alloc o) w.heap.size 0 d).drewN k=grow (w.drewN k) os:=by
 rw[alloc_eq_grow];obtain⟨c,_,e⟩:=putRow_grow_new encB w #[o] w.heap.size 0 d nlr;exact⟨c,by rw[e];rfl⟩
set_option maxRecDepth 100000 in
theorem TV(u:Nat)(p:u<18446744073709551616)(w:World)(c:Tab w):
  Calls prog 252 #[.int .u64 (u:Int),.int .i64 10] w λe w'=>e=.returned (.string (str (dec u)))/\Below w.heap.size w w':=by
 by_cases E:u<100
 ·go_enter func252,ntmps252
  go_wp2_with (go_at_call 261;refine(Tryz.internal_strconv_small u E _).mono ?_;rintro e w'⟨rfl,rfl⟩)
  go_ret;exact⟨rfl,blr⟩
 have A:1<=u:=by omega
 have z:Lib.nDigits u<=20:=Lib.nDigits_le20 u p;have m:prog.arrayLen 248=24:=by simp[Program.arrayLen,underlying248]
 have B:∀W,(Instr.sliceAt 248 (.pointer (some (Ad w.heap.size 0))) none (some (.int .i64 (Lib.nDigits u:Int))) none).run prog W=.ok (.slice (some (Ad w.heap.size 0)) (Lib.nDigits u) 24) W:=λW=>by
  rw[run_sliceAt_array_h W 248 (Ad w.heap.size 0) (by simp[Program.arrayLen,Program.elem,underlying248]) .i64 (Lib.nDigits u:Int) (by omega) (by rw[m];omega)];go_simp
 have g:=holds_zero0 w 248 (Lib.nDigits u) (by omega);have d:=Tryz.internal_strconv_formatBase10 w.heap.size 0 24 u (Array.replicate (Lib.nDigits u) 0) (w.alloc (.cells Lib.zeros24 248)) g (by rw[Array.size_replicate];exact Lib.lt_pow_nDigits u) p (by rw[Array.size_replicate];omega);rw[Array.size_replicate]at d;have o:=qh g;clear g m;replace c:=qh c
 go_enter func252,ntmps252
 go_wp2_with (go_at_call 262;refine(Tryz.internal_strconv_numDigits u A p _ (Lib.tabIs_alloc c.o _)).mono ?_;rintro e w'⟨rfl,rfl⟩)
 refine d.mono ?_;rintro e w'⟨rfl,k,F,i,rfl,l⟩;have D:(convert 217 9 (.slice (some (Ad w.heap.size 0)) (Lib.nDigits u) 24)).run prog ((putRow encB (w.alloc (.cells Lib.zeros24 248)) w.heap.size 0 i).drewN k)=.ok (.string ⟨(Lib.decDigits u).toArray⟩) ((putRow encB (w.alloc (.cells Lib.zeros24 248)) w.heap.size 0 i).drewN k):=by
  have h:=run_convert_bytes_back (P:=prog) ((putRow encB (w.alloc (.cells Lib.zeros24 248)) w.heap.size 0 i).drewN k) 217 9 5 (Ad w.heap.size 0) 24 (Lib.decDigits u) underlying217 underlying5 underlying9 (λj s=>by
   rw[Lib.row_is_numeral l j s,Lib.add_plain,World.cell?_drewN];exact cell?_putRow encB _ w.heap.size 0 _ i o.o (by rw[l.size,Array.size_replicate]) j (by rw[l.size];rw[Lib.decDigits_length]at s;exact s))
  rw[Lib.decDigits_length]at h;exact h
 replace l:=qh l;go_wp2;go_ret;obtain⟨os,C⟩:=TS w (.cells Lib.zeros24 248) i k;refine⟨rfl,?_⟩;have:=below_grow (below_drewN (Below.refl w.heap.size w) k) os nlr;rw[<-C]at this;exact this
def TU(u:Nat)(d:u<18446744073709551616)(w:World)(c:Tab w):
  Calls prog 237 #[.int .u64 (u:Int),.int .i64 10] w λe w'=>e=.returned (.string (str (dec u)))/\Below w.heap.size w w':=by
 replace c:=qh c
 go_enter func237,ntmps237
 go_wp2_with fail
 refine(TV u d w c.o).mono ?_;rintro e w'⟨rfl,hb⟩;replace hb:=qh hb;go_wp2;go_ret;exact⟨rfl,hb.o⟩
end
section
open Go.RowKit
def Ht(s:ByteArray)(h:0<s.size):s.toList.isEmpty=false:=by
 rw[Lib.toList_data];cases c:s.data.toList with
 |nil =>
      have:s.size=0:=by rw[<-Aq,bts,c];rfl
      omega
 |cons a l=>rfl
def Kd(s:ByteArray)(h:0<s.size):¬s.toList=[]:=by
 have:=Ht s h;intro e;rw[e]at this;simp at this
def Vn(s:ByteArray)(h:s.size=0):s.toList=[]:=by
 rw[Lib.toList_data];exact List.length_eq_zero_iff.1 (by have:=Aq s;unfold bts at this;omega)
def Qk(c:UInt8)(h:c≠48):((c.toNat:Int)==48)=false:=by
 rw[beq_eq_false_iff_ne];intro e;apply h;apply UInt8.toNat_inj.1;show c.toNat=48;omega
def Ju{c:UInt8}(d:(48:Int)<=(c.toNat:Int))(g:(c.toNat:Int)<=57):dgt c=true:=by
 simp[dgt];omega
def Jt{c:UInt8}(d:(c.toNat:Int)<48):dgt c=false:=by simp[dgt];omega
def Js{c:UInt8}(d:(57:Int)<(c.toNat:Int)):dgt c=false:=by simp[dgt];omega
def YI(s:ByteArray)(w:World)(l:1<=s.size)(C:s.size<=1000)(u:s.size=1\/(bts s).headD 0≠48):
  Calls prog 196 #[.string s] w λe w'=>e=.returned (.bool (dgts (bts s)))/\w=w':=by
 have p:s.toList.isEmpty=false:=Ht s l;have o:¬s.toList=[]:=Kd s l;have A:0<s.size:=by omega
 have z:decide ((1000:Int)<(s.size:Int))=false:=by simp;omega
 by_cases F:s.size=1
 all_goals
  have m:1<s.size->((s[0].toNat:Int)==48)=false:=λh=>Qk _ (by
                                            rw[<-FP s A];rcases u with j|j;· omega
                                            exact j)
  try have D:=m (by omega)
  clear m
  go_enter func196,ntmps196
  go_wp2;clear o p z
  go_loop [23] (λi=>∃k:Nat,k<=s.size/\i=.int .i64 k/\dgts ((bts s).take k)=true) (λi=>s.size-(intOf i).toNat)
  case atStart=>exact⟨0,Nat.zero_le _,rfl,rfl⟩
  obtain⟨k,E,rfl,g⟩:=hrel;replace g:=qh g;by_cases c:k<s.size
  ·go_wp2
   ·have d:(57:Int)<(s[k].toNat:Int):=by omega
    go_ret;exact⟨AJ (Hj s k c (Js d)).symm,rfl⟩
   ·have d:(48:Int)<=(s[k].toNat:Int):=by omega
    have B:(s[k].toNat:Int)<=57:=by omega
    go_round
    case rel=>exact⟨k+1,by omega,by go_num,by rw[EH s k c,DW,g.o,Ju d B];rfl⟩
    simp[intOf];omega
   have d:(s[k].toNat:Int)<48:=by assumption
   go_ret;exact⟨AJ (Hj s k c (Jt d)).symm,rfl⟩
  go_wp2;go_ret;exact⟨AJ (by rw[<-g.o,List.take_of_length_le (by rw[Aq];omega)]),rfl⟩
def YH(s:ByteArray)(w:World)(l:s.size<=maxLen):
  Calls prog 196 #[.string s] w λe w'=>e=.returned (.bool (As (bts s)))/\w=w':=by
 unfold maxLen at l;by_cases j:s.size=0
 ·have c:As (bts s)=false:=by simp[As,Aq,j]
  have i:=Vn s j;have g:=qh c;clear c
  go_enter func196,ntmps196
  go_wp2;go_ret;exact⟨AJ g.o.symm,rfl⟩
 by_cases u:1000<s.size
 ·have c:As (bts s)=false:=by simp[As,Aq];intros;omega
  have g:=qh c;clear c;have c:s.toList.isEmpty=false:=Ht s (by omega);have i:¬s.toList=[]:=Kd s (by omega)
  go_enter func196,ntmps196
  go_wp2;go_ret;exact⟨AJ g.o.symm,rfl⟩
 by_cases d:s.size=1\/(bts s).headD 0≠48
 ·refine(YI s w (by omega) (by omega) d).mono λe w' ⟨k,p⟩=>⟨?_,p⟩;rw[k];have:As (bts s)=dgts (bts s):=by
   cases hd:dgts (bts s) with
   |false=>simp[As,hd]
   |true=>exact IS (by rw[Aq];omega) (by rw[Aq];omega) (by rw[Aq];exact d) hd
  rw[this]
 have c:As (bts s)=false:=by
  cases o:As (bts s) with
  |false=>rfl
  |true=>exact absurd (by have:=(Bc o).2.2.1;rw[Aq]at this;exact this) d
 have g:=qh c;clear c;have m:0<s.size:=by omega
 have c:s.toList.isEmpty=false:=Ht s (by omega);have i:¬s.toList=[]:=Kd s (by omega);have A:((s[0].toNat:Int)==48)=true:=by
  have:(bts s).headD 0=48:=by
   by_cases h:(bts s).headD 0=48
   ·exact h
   exact absurd (Or.inr h) d
  rw[FP s m]at this;rw[this];rfl
 have B:1<s.size:=by
  by_cases h:s.size=1
  ·exact absurd (Or.inl h) d
  omega
 have z:decide ((1000:Int)<(s.size:Int))=false:=by simp;omega
 clear d
 go_enter func196,ntmps196
 go_wp2;go_ret;exact⟨AJ g.o.symm,rfl⟩
def nvS(b:Bool)(n d:ByteArray):Value:=.agg #[.bool b,.string n,.string d]
def nv(q:Rat):Value:=nvS (negQ q) (str (dec q.num.natAbs)) (str (dec q.den))
def txtS(b:Bool)(n d:ByteArray):ByteArray :=
 let s:=if b then (⟨#[45]⟩:ByteArray)++n else n
 if d=⟨#[49]⟩ then s else s++((⟨#[47]⟩:ByteArray)++d)
def NR{s t:ByteArray}(h:s≠t):¬s.toList=t.toList:=by
 rw[Lib.toList_data,Lib.toList_data];intro e;apply h;exact Do e
def BQ{s:ByteArray}{l:List UInt8}(h:s≠str l):(s.toList==l)=false:=by
 rw[beq_eq_false_iff_ne,Lib.toList_data];intro e;apply h;rw[<-e];exact(Ei s).symm
theorem Jg(s t:ByteArray):bts (s++t)=bts s++bts t:=by
 show (s++t).data.toList=_;rw[ByteArray.data_append,Array.toList_append];rfl
theorem Qj(q:Rat):txtS (negQ q) (str (dec q.num.natAbs)) (str (dec q.den))=txt q:=by
 apply Do
 have hd:(str (dec q.den)=⟨#[49]⟩)↔q.den=1:=by
  constructor
  ·intro e;have:=congrArg bts e;rw[AL]at this;exact Cy<|this.trans Cd.symm
  intro e;rw[e,Cd];rfl
 unfold txtS txt txtL;rw[AL];by_cases h:q.den=1
 ·rw[ifp (hd.2 h),ifp h];cases negQ q
  ·simp[AL]
  simp only[if_true,Jg,AL];simp[bts]
 rw[ifn (λe=>h (hd.1 e)),ifn h];cases negQ q
 ·simp only[Bool.false_eq_true,if_false,Jg,AL];simp[bts]
 simp only[if_true,Jg,AL];simp[bts]
theorem Vu(b:Bool)(n d:ByteArray)(w:World)(hn:n.size<=400)(hd:d.size<=400):
  Calls prog 228 #[nvS b n d] w λe w'=>e=.returned (.string (txtS b n d))/\Below w.heap.size w w':=by
 have g:(n.size:Int)<=8388608:=by omega
 have i:(d.size:Int)<=8388608:=by omega
 clear hn hd;have c:Below w.heap.size w (w.alloc (.cells #[.bool b,.string n,.string d] 180)):=blr.alloc nlr _;replace c:=qh c;unfold nvS;by_cases h:d=⟨#[49]⟩
 ·subst h;cases b<;>simp only[txtS,if_true,if_false,Bool.false_eq_true]
  all_goals
   go_enter func228,ntmps228
   go_wp2;go_ret;exact⟨rfl,c.o⟩
 have j:(d.toList==[49])=false:=BQ h;cases b<;>simp only[txtS,if_true,if_false,Bool.false_eq_true]<;>rw[ifn h]<;>clear h
 ·go_enter func228,ntmps228
  go_wp2;go_ret;exact⟨rfl,c.o⟩
 have k:(((⟨#[45]⟩:ByteArray)++n).size:Int)<=8388609:=by rw[ByteArray.size_append];show ((1+n.size:Nat):Int)<=_;omega
 go_enter func228,ntmps228
 go_wp2;go_ret;exact⟨rfl,c.o⟩
def Vt(q:Rat)(w:World)(h:fitQ q):
  Calls prog 228 #[nv q] w λe w'=>e=.returned (.string (txt q))/\Below w.heap.size w w':=by
 rw[<-Qj];exact Vu _ _ _ w (by rw[AH];exact h.1) (by rw[AH];exact h.2)
def Ba(c:ByteArray)(w:World):Calls prog 165 #[.string c,.int .i64 0] w λe w'=>e=.returned (.string c)/\w=w':=by
 go_enter func165,ntmps165
 go_wp2;go_ret;exact⟨rfl,rfl⟩
end
end Go.Proofs.YtpldocnhbdlgfaaGreatDoor
