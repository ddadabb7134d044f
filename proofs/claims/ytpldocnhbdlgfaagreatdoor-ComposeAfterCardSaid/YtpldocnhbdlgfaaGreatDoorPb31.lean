/- Parts. -/
import Derived.Test.YtpldocnhbdlgfaaGreatDoorPb28
import Derived.Test.YtpldocnhbdlgfaaGreatDoorPb29
namespace Go.Proofs.YtpldocnhbdlgfaaGreatDoor
set_option maxRecDepth 100000
set_option linter.all false
set_option maxHeartbeats 16000000
open Go Tryz
section
open Go CSR
section
variable{A B M:MD}(hA:VM A)(hB:VM B)(hkk:A.kind=B.kind)(hSA:MSz A)(hSB:MSz B){al:Nat->Bool}(hal:∀p,al p=true\/∀k,k<A.na p->A.aout p k≠0){n:Nat}(h:CmpIs A B al n M){k:KK}(hk:k.1=A.kind)
include hA hB hkk hSA hSB hal h hk
theorem CmpIs.cmp(x y:List Int):IsCmp 500 (rel (rmOf k A)) (rel (rmOf k B)) x y (rel (rmOf k M) x y):=by
 have g:=RV (k:=k) hA hB hk hkk (al:=al) hal h.len h.lead (λp q f o=>by
  obtain⟨i,hi,e⟩:=List.getElem_of_mem o;exact h.pr i p q f (by rw[h.len]at hi;exact hi) (by rw[List.getElem?_eq_getElem hi,e]))
 obtain⟨l,_,_⟩:=h.vm hA hB hkk hSA hSB;rw[<-h.eq]at g;refine g.rel (m:=500) (λp d s hd j=>?_) (hA.inn k) (hB.inn k) (l.inn k) x y;have c:=hA.arc p d s hd;have u:A.aout p d≠0:=j;have z:=c.o0;have C:=c.o1;exact⟨(A.aout p d-1).toNat,by omega,by show A.aout p d=_;omega⟩
end
structure CmpIr(A B:MD)(n:Nat)(M:MD):Prop where
 len:(itP A B (λ_=>true) n).1.length=n
 eq:M=(itP A B (λ_=>true) n).2
 lead:(Ae A.kind A.lead B.lead).2=0
 pr:∀i p q f,i<n->(itP A B (λ_=>true) n).1[i]?=some (p,q,f)->PrOk A B p q
end
section
open Go.RowKit Go.Deep
variable{w:World}{g:Nat}{A B D:MD}{sv u:Value}{R:Nat->Value}
theorem Cps.lead{j c:Nat}{s:Value}{m o:List Plc}{qv:Value}{k fl:Int}(h:Cps w j c A B s u m o D R sv g qv k fl)(l:ByteArray):
  Cps (w.setCell (Ad c 10) (.string l)) j c A B s u m o { D with lead:=l } R sv g qv k fl :=
 ⟨by have d:=h.blk;unfold ccs at d ⊢;simp[World.setCell,Array.getElem?_modify,d],by
  have d:=h.own.other (p:=(Ad c 10)) (Ao h.own.top h.blk (by decide)) (λi hi=>Ao (h.own.row i hi) h.blk (by decide)) (.string l);exact⟨d.top,d.row,d.apart⟩,BF h.que (p:=(Ad c 10)) (Ao h.que h.blk (by decide)) _,h.mp.kept (Aw (show g≠c from h.nep.symm)),h.low,h.lowp⟩
def Cps.times{W:World}{d s:Nat}{z:Value}{m o:List Plc}{qv:Value}{j:Int}(h:Cps w g d A B u z m o D R sv s qv j (0:Nat))(l:g<=w.heap.size){v x:ByteArray}(G:Ak A.kind v=true)(H:Ak A.kind x=true){r:Ending}(E:CtE d (Ae A.kind v x) w r W):
  r=.returned (.string (tmS A v x))/\∃fl:Nat,Cps W g d A B u z m o D R sv s qv j fl/\Below g w W/\(∀b,b<w.heap.size->b≠d->W.heap[b]?=w.heap[b]?)/\(fl=0/\(Ae A.kind v x).2=0\/fl=2/\(Ae A.kind v x).2≠0):=by
 obtain⟨rfl,J,hb,rfl⟩:=E;refine⟨rfl,?_⟩;obtain⟨k,I⟩:=h.below hb;by_cases i:(Ae A.kind v x).2=0
 ·rw[ifp i];exact⟨0,k,hb.mono l,λb c _=>hb.block b c,.inl ⟨rfl,i⟩⟩
 rw[ifn i];have C:(Ae A.kind v x).2=2:=(Gz G H).resolve_left i;rw[C];exact⟨2,(k.err _).1,(hb.mono l).setCell (p:=(Ad d 15)) h.low _,λb c F=>(Aw F).trans (hb.block b c),.inr ⟨rfl,by omega⟩⟩
def HA{base:Nat}{e:TypeId}{size:Nat}{v:Value}{n:Nat}{xs:List Value}(h:w.ownsRow base e size v n xs)(hn:0<n):∃g cap,v=.slice (some (Ad g 0)) n cap:=by
 rcases h.2 with⟨_,d⟩|⟨g,cap,cur,c,_⟩
 ·omega
 exact⟨g,cap,c⟩
theorem HD:∀(l:List Plc) (n:Nat) (x:Plc),l[n]?=some x->(plL l)[n*3]?=some (.int .i64 (x.1:Int))/\(plL l)[n*3+1]?=some (.int .i64 (x.2.1:Int))/\(plL l)[n*3+2]?=some (.bool x.2.2)
 | [],n,x,h=>by simp at h
 |y::t,0,x,h=>by
  have e:y=x:=by simpa using h
  subst e;exact⟨rfl,rfl,rfl⟩
 |y::t,n+1,x,h=>by
  have h1:=HD t n x (by simpa using h);have e:plL (y::t)=.int .i64 (y.1:Int)::.int .i64 (y.2.1:Int)::.bool y.2.2::plL t:=rfl;rw[e,show (n+1)*3=n*3+1+1+1 by omega];exact h1
theorem Cvi.start{A B:MD}{al:Nat->Bool}{fl:Nat}(c:VM A)(d:VM B)(h:fl=0/\(Ae A.kind A.lead B.lead).2=0\/fl=2/\(Ae A.kind A.lead B.lead).2≠0):Cvi A B al 0 (it0 A B) 0 fl:=by
 have:=c.s0;have:=c.s1;have:=d.s0;have:=d.s1;refine⟨by simp[it0],rfl,λx g=>?_,by simp[it0],λi=>?_,by omega,by omega,by omega,by omega,λe=>⟨by simp[it0],by omega,rfl,rfl,?_,λi p q f hi=>by omega⟩,λe=>.inl ⟨A.lead,B.lead,.inl rfl,.inl rfl,?_⟩⟩
 ·have e:x=(A.start.toNat,B.start.toNat,false):=List.mem_singleton.1 g;subst e;exact⟨by show A.start.toNat<A.n;omega,by show B.start.toNat<B.n;omega⟩
 ·show (if i=0 then 0 else 0)<=0
  split<;>omega
 ·rcases h with h|h
  ·exact h.2
  omega
 rcases h with h|h
 ·omega
 exact h.2
def CmL(B0 cb pb rb:Nat)(A B:MD)(sa sb:Value)(w:World)(n:Nat)(W:World):Prop :=
 ∃(S:List Plc × MD) (R:Nat->Value) (sv qv:Value) (ac fl:Nat),Cps W B0 cb A B sa sb S.1 S.1 S.2 R sv pb qv ac fl/\Cvi A B (alF A) n S ac fl/\Below B0 w W/\Fb cb W sv R S.2.n pb qv rb/\W.heap[rb]?=some (.cells #[.int .i64 0,.int .i64 0,.string ⟨#[]⟩,.slice none 0 0] 25 (0,0))
def CmE(A B:MD)(w:World)(r:Ending)(w':World):Prop :=
 Below w.heap.size w w'/\((VM A/\VM B/\A.kind=B.kind/\
  ((∃n M,CmpIs A B (alF A) n M/\∃sv R,r=.returned (.tuple #[.agg #[.int .i64 M.kind,.int .i64 M.start,.string M.lead,sv],.int .i64 0])/\OwM w' w.heap.size sv M R)\/(BadC A B/\r=.returned (.tuple #[AQ,.int .i64 2]))))\/
  (VM A/\VM B/\A.kind≠B.kind/\r=.returned (.tuple #[AQ,.int .i64 6]))\/(¬(VM A/\VM B)/\r=.returned (.tuple #[AQ,.int .i64 1])))
end
section
open Go CSR
def Tp{A B:MD}(j:A.n+B.n<=5)(i:Ah A A.n+Ah B B.n<=10):¬3000<2*(A.n*B.n)/\¬30000<2*(A.n*B.n)*bnd A B:=by
 have d:A.n*B.n<=5*5:=Nat.mul_le_mul (by omega) (by omega);have g:Ah A A.n*Ah B B.n<=10*10:=Nat.mul_le_mul (by omega) (by omega);have c:bnd A B<=120:=by unfold bnd;omega
 have h:2*(A.n*B.n)*bnd A B<=50*120:=Nat.mul_le_mul (by omega) c;exact⟨by omega,by omega⟩
def BadC.few{A B:MD}(h:BadC A B)(i:A.n+B.n<=5)(g:Ah A A.n+Ah B B.n<=10):BadW A B:=by
 obtain⟨c,d⟩:=Tp i g
 rcases h with h|h|h
 ·exact h
 ·exact absurd h c
 exact absurd h d
end
section
open Go CSR
set_option exponentiation.threshold 2000
variable{A B:MD}{v:ByteArray}{S T:Nat}
def Bdv(k:Int)(T:Nat)(v:ByteArray):Prop:=∃x:V,vprs k v=some x/\bd T x
def WBd(T:Nat)(A:MD):Prop:=∀v,WtOf A v->Bdv A.kind T v
def GP{k:KK}(h:Am k.1 v=true)(hd:dgn v v.size<=4):Bdv k.1 10000 v:=by
 have c:=IL<|Cu h;exact⟨_,c.vprs,Xd c hd⟩
def ShM.bdv(c:VM A)(j:ShM A):WBd 10000 A:=λv l=>by
 obtain⟨k,g⟩:=c.kk;rw[<-g]
 rcases l with rfl|⟨i,hi,rfl,h⟩|⟨i,d,hi,hd,rfl⟩
 ·exact GP (by rw[g];exact c.lead) j.lead
 ·exact GP (by rw[g];exact(c.fin i hi).resolve_left h) (j.st i hi).1
 exact GP (by rw[g];exact(c.arc i d hi hd).wt) ((j.st i hi).2 d hd)
def Bdv.times{k:Int}{w:ByteArray}(p:Bdv k S v)(s:Bdv k T w)(m:1<=S)(o:1<=T)(c:S*T<=10 ^ 399):(Ae k v w).2=0/\∃x y:V,vprs k v=some x/\vprs k w=some y/\(Ae k v w).1=vtxt (Ai k x y)/\bd (S*T) (Ai k x y):=by
 obtain⟨x,d,j⟩:=p;obtain⟨y,g,l⟩:=s;have h:=Rn (k:=k) j l m o;have i:=XK d g (h.fit c);exact⟨by rw[i],x,y,d,g,by rw[i],h⟩
def WBd.bad(h:WBd S A)(i:WBd T B)(d:A.kind=B.kind)(j:1<=S)(k:1<=T)(c:S*T<=10 ^ 399):¬BadW A B:=λ⟨v,w,l,m,g⟩ =>
 g ((h v l).times (by rw[d];exact i w m) j k c).1
def lit2(h:LitL 2 (pk3 A B B)):A.n+B.n<=5/\Ah A A.n+Ah B B.n<=10/\ShM A/\ShM B:=by
 obtain⟨j,k,c⟩:=h;have d:sM (λi=>(pk3 A B B i).n) 2=0+A.n+B.n:=rfl;have g:sM (λi=>Ah (pk3 A B B i) (pk3 A B B i).n) 2=0+Ah A A.n+Ah B B.n:=rfl;rw[d]at j;rw[g]at k;exact⟨by omega,by omega,c 0 (by omega),c 1 (by omega)⟩
def BadC.not2(k:VM A)(l:VM B)(c:A.kind=B.kind)(h:BadC A B):¬LitL 2 (pk3 A B B):=λm=>by
 obtain⟨d,g,i,j⟩:=lit2 m;exact(i.bdv k).bad (j.bdv l) c (by omega) (by omega) (Nat.le_trans (by omega:10000*10000<=10 ^ 8) (Nat.pow_le_pow_right (by omega) (by omega))) (h.few d g)
section
variable{P:ByteArray->Prop}{M:MD}
end
section
variable{P:ByteArray->Prop}{A B:MD}(hPA:∀i d,i<A.n->d<A.na i->P (A.aw i d))(hPB:∀i d,i<B.n->d<B.na i->P (B.aw i d))
 (hPP:∀p q k j,p<A.n->q<B.n->k<A.na p->j<B.na q->P (tmS A (A.aw p k) (B.aw q j))) (hPF:∀p q,p<A.n->q<B.n->A.fin p≠⟨#[]⟩->B.fin q≠⟨#[]⟩->P (tmS A (A.fin p) (B.fin q)))
include hPA hPB hPP in
include hPA hPB hPP hPF in
end
theorem ten8:10000*10000<=10 ^ 399:=Nat.le_trans (by omega:10000*10000<=10 ^ 8) (Nat.pow_le_pow_right (by omega) (by omega))
end
end Go.Proofs.YtpldocnhbdlgfaaGreatDoor
