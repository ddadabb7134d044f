/- Parts. -/
import Derived.Test.YtpldocnhbdlgfaaGreatDoorPc38
import Derived.Test.YtpldocnhbdlgfaaGreatDoorPc36
import Derived.Test.YtpldocnhbdlgfaaGreatDoorPc31
namespace Go.Proofs.YtpldocnhbdlgfaaGreatDoor
set_option maxRecDepth 100000
set_option linter.all false
set_option maxHeartbeats 16000000
open Go Tryz
section
open Go.RowKit Go.Deep
variable{w:World}{g:Nat}{A B D:MD}{s sv:Value}{R:Nat->Value}{ac:Int}
theorem Cps.lead{j c:Nat}{o:Value}{k m:List Plc}{qv:Value}{fl:Int}(h:Cps w j c A B o s k m D R sv g qv ac fl)(l:ByteArray):
  Cps (w.setCell (Ad c 10) (.string l)) j c A B o s k m { D with lead:=l } R sv g qv ac fl :=
 ⟨by have d:=h.blk;unfold ccs at d ⊢;simp[World.setCell,Array.getElem?_modify,d],by
  have d:=h.own.other (p:=(Ad c 10)) (Az h.own.top h.blk (by decide)) (λi hi=>Az (h.own.row i hi) h.blk (by decide)) (.string l);exact⟨d.top,d.row,d.apart⟩,BG h.que (p:=(Ad c 10)) (Az h.que h.blk (by decide)) _,h.mp.kept (AQ (show g≠c from h.nep.symm)),h.low,h.lowp⟩
def Cps.times{W:World}{d o:Nat}{u:Value}{l m:List Plc}{qv:Value}(h:Cps w g d A B s u l m D R sv o qv ac (0:Nat))(k:g<=w.heap.size){v x:ByteArray}(F:Aj A.kind v=true)(G:Aj A.kind x=true){r:Ending}(C:CtE d (Ah A.kind v x) w r W):
  r=.returned (.string (tmS A v x))/\∃fl:Nat,Cps W g d A B s u l m D R sv o qv ac fl/\Below g w W/\(∀b,b<w.heap.size->b≠d->W.heap[b]?=w.heap[b]?)/\(fl=0/\(Ah A.kind v x).2=0\/fl=2/\(Ah A.kind v x).2≠0):=by
 obtain⟨rfl,I,hb,rfl⟩:=C;refine⟨rfl,?_⟩;obtain⟨j,H⟩:=h.below hb;by_cases i:(Ah A.kind v x).2=0
 ·rw[ifp i];exact⟨0,j,hb.mono k,λb c _=>hb.block b c,.inl ⟨rfl,i⟩⟩
 rw[ifn i];have z:(Ah A.kind v x).2=2:=(KG F G).resolve_left i;rw[z];exact⟨2,(j.err _).1,(hb.mono k).setCell (p:=(Ad d 15)) h.low _,λb c E=>(AQ E).trans (hb.block b c),.inr ⟨rfl,by omega⟩⟩
def NF{base:Nat}{e:TypeId}{size:Nat}{v:Value}{n:Nat}{xs:List Value}(h:w.ownsRow base e size v n xs)(hn:0<n):∃g cap,v=.slice (some (Ad g 0)) n cap:=by
 rcases h.2 with⟨_,d⟩|⟨g,cap,cur,c,_⟩
 ·omega
 exact⟨g,cap,c⟩
theorem NI:∀(l:List Plc) (n:Nat) (x:Plc),l[n]?=some x->(plL l)[n*3]?=some (.int .i64 (x.1:Int))/\(plL l)[n*3+1]?=some (.int .i64 (x.2.1:Int))/\(plL l)[n*3+2]?=some (.bool x.2.2)
 | [],n,x,h=>by simp at h
 |y::t,0,x,h=>by
  have e:y=x:=by simpa using h
  subst e;exact⟨rfl,rfl,rfl⟩
 |y::t,n+1,x,h=>by
  have h1:=NI t n x (by simpa using h);have e:plL (y::t)=.int .i64 (y.1:Int)::.int .i64 (y.2.1:Int)::.bool y.2.2::plL t:=rfl;rw[e,show (n+1)*3=n*3+1+1+1 by omega];exact h1
theorem Cvi.start{A B:MD}{al:Nat->Bool}{fl:Nat}(c:VM A)(d:VM B)(h:fl=0/\(Ah A.kind A.lead B.lead).2=0\/fl=2/\(Ah A.kind A.lead B.lead).2≠0):Cvi A B al 0 (it0 A B) 0 fl:=by
 have:=c.s0;have:=c.s1;have:=d.s0;have:=d.s1;refine⟨by simp[it0],rfl,λx g=>?_,by simp[it0],λi=>?_,by omega,by omega,by omega,by omega,λe=>⟨by simp[it0],by omega,rfl,rfl,?_,λi p q f hi=>by omega⟩,λe=>.inl ⟨A.lead,B.lead,.inl rfl,.inl rfl,?_⟩⟩
 ·have e:x=(A.start.toNat,B.start.toNat,false):=List.mem_singleton.1 g;subst e;exact⟨by show A.start.toNat<A.n;omega,by show B.start.toNat<B.n;omega⟩
 ·show (if i=0 then 0 else 0)<=0
  split<;>omega
 ·rcases h with h|h
  ·exact h.2
  omega
 rcases h with h|h
 ·omega
 exact h.2
def CmL(B0 cb pb rb:Nat)(A B:MD)(sa sb:Value)(w:World)(n:Nat)(W:World):Prop :=
 ∃(S:List Plc × MD) (R:Nat->Value) (sv qv:Value) (ac fl:Nat),Cps W B0 cb A B sa sb S.1 S.1 S.2 R sv pb qv ac fl/\Cvi A B (alF A) n S ac fl/\Below B0 w W/\Fb cb W sv R S.2.n pb qv rb/\W.heap[rb]?=some (.cells #[.int .i64 0,.int .i64 0,.string ⟨#[]⟩,.slice none 0 0] 25 (0,0))
def CmE(A B:MD)(w:World)(r:Ending)(w':World):Prop :=
 Below w.heap.size w w'/\((VM A/\VM B/\A.kind=B.kind/\
  ((∃n M,CmpIs A B (alF A) n M/\∃sv R,r=.returned (.tuple #[.agg #[.int .i64 M.kind,.int .i64 M.start,.string M.lead,sv],.int .i64 0])/\OwM w' w.heap.size sv M R)\/(BadC A B/\r=.returned (.tuple #[AP,.int .i64 2]))))\/
  (VM A/\VM B/\A.kind≠B.kind/\r=.returned (.tuple #[AP,.int .i64 6]))\/(¬(VM A/\VM B)/\r=.returned (.tuple #[AP,.int .i64 1])))
end
section
open Go CSR
set_option exponentiation.threshold 2000
variable{A B:MD}{v:ByteArray}{S T:Nat}
def Bdv(k:Int)(T:Nat)(v:ByteArray):Prop:=∃x:V,vprs k v=some x/\bd T x
def WBd(T:Nat)(A:MD):Prop:=∀v,WtOf A v->Bdv A.kind T v
def IF{k:KK}(h:Am k.1 v=true)(hd:dgn v v.size<=4):Bdv k.1 10000 v:=by
 have c:=Iu<|DL h;exact⟨_,c.vprs,WH c hd⟩
def ShM.bdv(c:VM A)(j:ShM A):WBd 10000 A:=λv l=>by
 obtain⟨k,g⟩:=c.kk;rw[<-g]
 rcases l with rfl|⟨i,hi,rfl,h⟩|⟨i,d,hi,hd,rfl⟩
 ·exact IF (by rw[g];exact c.lead) j.lead
 ·exact IF (by rw[g];exact(c.fin i hi).resolve_left h) (j.st i hi).1
 exact IF (by rw[g];exact(c.arc i d hi hd).wt) ((j.st i hi).2 d hd)
def Bdv.times{k:Int}{w:ByteArray}(p:Bdv k S v)(s:Bdv k T w)(m:1<=S)(o:1<=T)(c:S*T<=10 ^ 399):(Ah k v w).2=0/\∃x y:V,vprs k v=some x/\vprs k w=some y/\(Ah k v w).1=vtxt (Ag k x y)/\bd (S*T) (Ag k x y):=by
 obtain⟨x,d,j⟩:=p;obtain⟨y,g,l⟩:=s;have h:=QJ (k:=k) j l m o;have i:=Xw d g (h.fit c);exact⟨by rw[i],x,y,d,g,by rw[i],h⟩
def WBd.bad(h:WBd S A)(i:WBd T B)(d:A.kind=B.kind)(j:1<=S)(k:1<=T)(c:S*T<=10 ^ 399):¬BadW A B:=λ⟨v,w,l,m,g⟩ =>
 g ((h v l).times (by rw[d];exact i w m) j k c).1
def lit2(h:LitL 2 (pk3 A B B)):A.n+B.n<=5/\Ai A A.n+Ai B B.n<=10/\ShM A/\ShM B:=by
 obtain⟨j,k,c⟩:=h;have d:sM (λi=>(pk3 A B B i).n) 2=0+A.n+B.n:=rfl;have g:sM (λi=>Ai (pk3 A B B i) (pk3 A B B i).n) 2=0+Ai A A.n+Ai B B.n:=rfl;rw[d]at j;rw[g]at k;exact⟨by omega,by omega,c 0 (by omega),c 1 (by omega)⟩
def BadC.not2(k:VM A)(l:VM B)(c:A.kind=B.kind)(h:BadC A B):¬LitL 2 (pk3 A B B):=λm=>by
 obtain⟨d,g,i,j⟩:=lit2 m;exact(i.bdv k).bad (j.bdv l) c (by omega) (by omega) (Nat.le_trans (by omega:10000*10000<=10 ^ 8) (Nat.pow_le_pow_right (by omega) (by omega))) (h.few d g)
section
variable{P:ByteArray->Prop}{M:MD}
end
section
variable{P:ByteArray->Prop}{A B:MD}(hPA:∀i d,i<A.n->d<A.na i->P (A.aw i d))(hPB:∀i d,i<B.n->d<B.na i->P (B.aw i d))
 (hPP:∀p q k j,p<A.n->q<B.n->k<A.na p->j<B.na q->P (tmS A (A.aw p k) (B.aw q j))) (hPF:∀p q,p<A.n->q<B.n->A.fin p≠⟨#[]⟩->B.fin q≠⟨#[]⟩->P (tmS A (A.fin p) (B.fin q)))
include hPA hPB hPP in
include hPA hPB hPP hPF in
end
end
section
open Go.RowKit Go.Deep
variable{B:Nat}{R:Nat->Value}
def Has(W:World)(b:Nat)(k s:Int)(l:ByteArray)(a:Option Addr)(n c:Nat)(D:MD):Prop :=
 W.heap[b]?=some (.cells #[.int .i64 k,.int .i64 s,.string l,.slice a n c] 25 (0,0))/\(k=D.kind/\s=D.start/\l=D.lead)/\∃R,OwM W 0 (.slice a n c) D R
def Ea{w w':World}{sv:Value}{D:MD}(h:OwM w B sv D R)(hb:Below w.heap.size w w'):OwM w' B sv D R :=
 ⟨AG h.top (Ae hb none) (λ_ _=>by simp),λi hi=>AG (h.row i hi) (Ae hb none) (λ_ _=>by simp),h.apart⟩
variable{W W':World}{b rb:Nat}{k s:Int}{l:ByteArray}{a:Option Addr}{n c:Nat}{D:MD}
def Has.on(h:Has W b k s l a n c D)(hb:Below W.heap.size W W'):Has W' b k s l a n c D:=⟨(hb.block b (lbk h.1)).trans h.1,h.2.1,by obtain⟨R,d⟩:=h.2.2;exact⟨R,Ea d hb⟩⟩
theorem Has.ma(h:Has W b k s l a n c D):Ma none W (.agg #[.int .i64 k,.int .i64 s,.string l,.slice a n c]) D:=by
 obtain⟨_,⟨rfl,rfl,rfl⟩,R,d⟩:=h;exact d.ma blr
def Has.set(h:Has W b k s l a n c D){c0 c1 c2 c3:Value}(m:W.heap[rb]?=some (.cells #[c0,c1,c2,c3] 25 (0,0)))(d:b≠rb)(o p u z:Value):Has ((((W.setCell (Ad rb 0) o).setCell (Ad rb 1) p).setCell (Ad rb 2) u).setCell (Ad rb 3) z) b k s l a n c D:=by
 obtain⟨g,i,R,j⟩:=h;refine⟨?_,i,R,j.box4 m _ _ _ _⟩;rw[Ay d,Ay d,Ay d,Ay d];exact g
def Has.new(h:OwM W B (.slice a n c) D R)(e:k=D.kind/\s=D.start/\l=D.lead):Has (W.alloc (.cells #[.int .i64 k,.int .i64 s,.string l,.slice a n c] 25)) W.heap.size k s l a n c D :=
 ⟨han W _,e,R,CJ (Ea h ((Below.refl _ W).alloc nlr _)) nzl⟩
theorem Has.put{c0 c1 c2 c3:Value}(h:OwM W B (.slice a n c) D R)(d:W.heap[rb]?=some (.cells #[c0,c1,c2,c3] 25 (0,0)))(e:k=D.kind/\s=D.start/\l=D.lead):Has ((((W.setCell (Ad rb 0) (.int .i64 k)).setCell (Ad rb 1) (.int .i64 s)).setCell (Ad rb 2) (.string l)).setCell (Ad rb 3) (.slice a n c)) rb k s l a n c D :=
 ⟨AE W rb _ _ _ _ d,e,R,CJ (h.box4 d _ _ _ _) nzl⟩
end
section
open Go.RowKit Go.Deep
def rcs(A B:MD)(sa sb:Value)(D:MD)(sv:Value)(qv:Value)(ac fl:Int):Array Value :=
 #[.int .i64 A.kind,.int .i64 A.start,.string A.lead,sa,.int .i64 B.kind,.int .i64 B.start,.string B.lead,sb,.int .i64 D.kind,.int .i64 D.start,.string D.lead,sv,qv,.int .i64 ac,.int .i64 fl]
section
variable{w:World}{cb:Nat}{A B:MD}{sa sb:Value}{D:MD}{sv:Value}{qv:Value}{ac fl:Int}{t:TypeId}(h:w.heap[cb]?=some (.cells (rcs A B sa sb D sv qv ac fl) t (0,0)))
include h
end
structure Rps(w:World)(B0 cb:Nat)(A B:MD)(sa sb:Value)(lq:List Plc)(D:MD)(R:Nat->Value)(sv:Value)(qv:Value)(ac fl:Int):Prop where
 blk:w.heap[cb]?=some (.cells (rcs A B sa sb D sv qv ac fl) 79 (0,0))
 own:OwM w B0 sv D R
 que:w.ownsRow B0 82 3 qv lq.length (plL lq)
 low:B0<=cb
def FreR(w:World)(sv:Value)(R:Nat->Value)(n:Nat)(qv:Value)(b:Nat):Prop:=b<w.heap.size/\sv.ownBlock≠some b/\(∀i,i<n->(R i).ownBlock≠some b)/\qv.ownBlock≠some b
def RfK(cb:Nat)(w:World)(sv:Value)(R:Nat->Value)(n:Nat)(qv:Value)(w':World)(sv':Value)(R':Nat->Value)(n':Nat)(qv':Value):Prop:=∀b,b≠cb->FreR w sv R n qv b->FreR w' sv' R' n' qv' b/\w'.heap[b]?=w.heap[b]?
section
variable{w w':World}{B0 cb:Nat}{A B:MD}{sa sb:Value}{lq:List Plc}{D:MD}{R:Nat->Value}{sv qv:Value}{ac fl:Int}(h:Rps w B0 cb A B sa sb lq D R sv qv ac fl)
include h
end
end
section
open Go.RowKit Go.Deep

end
section
open Go.RowKit Go.Deep
structure Lvr(A B:MD)(n:Nat)(L:List ArP)(S0 S:List Plc × MD)(ac0 ac fl:Nat):Prop where
 nd:S.1.Nodup
 kd:S.2.kind=A.kind
 len:S.2.n=S.1.length
 ok:∀x ∈ S.1,x.1<A.n/\x.2.1<B.n
 le:S.1.length<=3001
 na:∀i,S.2.na i<=ac
 ac1:ac<=30001
 n1:n<S.1.length
 pre:∃m,S.1=S0.1++m
 good:fl=0->S=addL n S0 L/\ac=ac0+L.length
section
variable{A B:MD}{n:Nat}{L:List ArP}{S0 S:List Plc × MD}{ac0 ac fl:Nat}
end
end
section
open Go.RowKit Go.Deep
def FbR(cb:Nat)(w:World)(sv:Value)(R:Nat->Value)(n:Nat)(qv:Value)(b:Nat):Prop:=b≠cb/\FreR w sv R n qv b
def Lvx(B0 cb n:Nat)(A B:MD)(sa sb:Value)(L:List ArP)(S0:List Plc × MD)(ac0:Nat)(w3:World)(R0:Nat->Value)(n0:Nat)(sv0 qv0:Value)(Q:Prop)(bx:Nat)(o:Obj)(W:World):Prop :=
 ∃(S:List Plc × MD) (R:Nat->Value) (sv qv:Value) (ac fl:Nat),Rps W B0 cb A B sa sb S.1 S.2 R sv qv ac fl/\Lvr A B n L S0 S ac0 ac fl/\RfK cb w3 sv0 R0 n0 qv0 W sv R S.2.n qv/\Below B0 w3 W/\(fl=0->Q)/\FbR cb W sv R S.2.n qv bx/\W.heap[bx]?=some o
section
variable{B0 cb n:Nat}{A B:MD}{sa sb:Value}{L:List ArP}{S0:List Plc × MD}{ac0:Nat}{w3 W W':World}{R0:Nat->Value}{n0:Nat}{sv0 qv0:Value}{Q Q':Prop}{bx:Nat}{o:Obj}(h:Lvx B0 cb n A B sa sb L S0 ac0 w3 R0 n0 sv0 qv0 Q bx o W)
include h
end
section
variable{B0 cb n:Nat}{A B:MD}{sa sb:Value}{L:List ArP}{S0:List Plc × MD}{ac0:Nat}{w3 W:World}{R0:Nat->Value}{n0:Nat}{sv0 qv0:Value}{Q:Prop}{bx:Nat}{o:Obj}
end
end
section
open Go.RowKit Go.Deep

end
end Go.Proofs.YtpldocnhbdlgfaaGreatDoor
