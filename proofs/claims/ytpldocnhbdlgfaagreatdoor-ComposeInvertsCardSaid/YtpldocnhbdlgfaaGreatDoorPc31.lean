/- Parts. -/
import Derived.Test.YtpldocnhbdlgfaaGreatDoorPc29
import Derived.Test.YtpldocnhbdlgfaaGreatDoorPc27
namespace Go.Proofs.YtpldocnhbdlgfaaGreatDoor
set_option maxRecDepth 100000
set_option linter.all false
set_option maxHeartbeats 16000000
open Go Tryz
section
open Go.RowKit Go.Deep
variable{w w' wr:World}{D:MD}{B c d g n q rb s:Nat}{A R:Nat->Value}{sv:Value}{e:TypeId}
def SymF(nf:FuncId)(cap:Array Value)(φ:Int->Int->Int × Int)(P:World->Prop):Prop :=
 (∀args w,(callFunc nf args).run prog w=.ok (.enter nf args) w)/\∀w,P w->∀i o:Int,0<=i->i<=500->0<=o->o<=500->Calls prog nf (#[.int .i64 i,.int .i64 o]++cap) w (λr w'=>r=.returned (.tuple #[.int .i64 (φ i o).1,.int .i64 (φ i o).2])/\Below w.heap.size w w')
structure ApI(w wr:World)(cb rb g q:Nat)(fv:Value)(D:MD)(φ:Int->Int->Int × Int)(R A:Nat->Value):Prop where
 hb:Below w.heap.size w wr
 kc:wr.heap[cb]?=some (.cells #[fv] 110 (0,0))
 kr:wr.heap[rb]?=some (.cells #[.int .i64 D.kind,.int .i64 D.start,.string D.lead,.slice (some (Ad g 0)) D.n D.n] 25 (0,0))
 lr:w.heap.size<=rb
 top:wr.ownsRow w.heap.size 63 2 (.slice (some (Ad g 0)) D.n D.n) D.n (cat (st2 D (λi=>if i<q then R i else A i)) D.n)
 row:∀i,i<q->wr.ownsRow w.heap.size 59 4 (R i) (D.na i) (cat (arc4 (D.sym φ) i) (D.na i))
 apart:∀i j,i<q->j<q->i≠j->∀b,(R i).ownBlock=some b->(R j).ownBlock≠some b
def mixA(D:MD)(φ:Int->Int->Int × Int)(q d k:Nat):List Value:=if k<d then arc4 (D.sym φ) q k else arc4 D q k
theorem FO(D:MD)(φ:Int->Int->Int × Int)(q d k:Nat):(mixA D φ q d k).length=4:=by unfold mixA;split<;>rfl
def Ug{φ:Int->Int->Int × Int}(hd:d<n):((cat (mixA D φ q d) n).set (d*4+0) (.int .i64 (φ (D.ain q d) (D.aout q d)).1)).set (d*4+1) (.int .i64 (φ (D.ain q d) (D.aout q d)).2)=cat (mixA D φ q (d+1)) n:=by
 have g:∀k,((λk=>if k=d then (mixA D φ q d d).set 0 (.int .i64 (φ (D.ain q d) (D.aout q d)).1) else mixA D φ q d k) k).length=4:=λk=>by
  dsimp only;split
  ·rw[List.length_set,FO]
  exact FO _ _ _ _ _
 rw[DT (FO D φ q d) (by omega) _ hd,DT g (by omega) _ hd];refine BC λk h=>?_;by_cases e:k=d
 ·subst e;simp only[if_pos];unfold mixA;rw[ifn (Nat.lt_irrefl _),ifp (Nat.lt_succ_self _)];rfl
 simp only[ifn e];unfold mixA;by_cases c:k<d
 ·rw[ifp c,ifp (by omega)]
 rw[ifn c,ifn (by omega)]
theorem Ue{φ:Int->Int->Int × Int}:cat (mixA D φ q n) n=cat (arc4 (D.sym φ) q) n:=BC λk c=>by unfold mixA;rw[ifp c]
theorem Uf{φ:Int->Int->Int × Int}:cat (mixA D φ q 0) n=cat (arc4 D q) n:=BC λk c=>by unfold mixA;rw[ifn (by omega)]
theorem GH{c:Nat->List Value}(h:∀i,∀v ∈ c i,v.oneCell'=true):∀n,∀v ∈ cat c n,v.oneCell'=true
 |0,v,hv=>by simp[cat]at hv
 |n+1,v,hv=>by
  rw[Di]at hv
  rcases List.mem_append.1 hv with hv|hv
  ·exact GH h n v hv
  exact h n v hv
def IK{c:Nat->List Value}(u:0<s)(p:∀i,(c i).length=s){b:Nat}(h:∀i j,i<n->j<s->∀v,(c i)[j]?=some v->w.cell? (Ad b (d+i*s+j))=some v):
  ∀j v,(cat c n)[j]?=some v->w.cell? (((Ad b d):Addr).add j)=some v:=by
 intro j v z;rw[Addr.add_lit];have A:j<n*s:=by have:=(List.getElem?_eq_some_iff.1 z).1;rw[CS p]at this;exact this
 have g:j % s<s:=Nat.mod_lt _ u;have k:j / s<n:=(Nat.div_lt_iff_lt_mul u).2 A;have l:j / s*s+j % s=j:=by rw[Nat.mul_comm];exact Nat.div_add_mod j s
 have m:=Cw p g k;rw[l,z]at m;have o:=h (j / s) (j % s) k g v m.symm;rw[Nat.add_assoc,l]at o;exact o
def NG{cur:Array Value}(h:w.heap[g]?=some (.cells cur e (0,0)))(d:B<=g)(i:n<=maxLen)(cs:List Value)(c:cs.length=n*s):
  (w.setRow g cs.toArray).ownsRow B e s (.slice (some (Ad g 0)) n n) n cs :=
 ⟨c,.inr ⟨g,n,cs.toArray,rfl,d,setRow_heap w g cur _ e _ h,nlr,i,by simp[c],by
  show cs.toArray.toList.take (n*s)=cs;rw[<-c];simp⟩⟩
def Wh{cap:Nat}{xs:List Value}(h:w.ownsRow B e s (.slice (some (Ad g 0)) n cap) n xs):∃cs,w.heap[g]?=some (.cells cs e (0,0)):=by
 rcases h.2 with⟨d,_⟩|⟨j,i,cur,d,_,c,_⟩
 ·cases d
 cases d;exact⟨cur,c⟩
def Ms(h:Fr (λx=>x=g) w w'):w.grownBy w' (some g):=(h.mono (C':=λq=>some g=some q) (λq _ e=>by rw[e])).gb
def ApI.mid{j:World}{k:Nat}{fv:Value}{φ:Int->Int->Int × Int}(h:ApI w j k rb g q fv D φ R A)(c:Fr (λx=>x=d) j wr)(o:j.heap.size<=d)(m:w.heap.size<=d):ApI w wr k rb g q fv D φ R A:=by
 have l:∀b,b<j.heap.size->some d≠some b:=λb hb e=>by injection e;omega
 refine⟨h.hb.trans (c.below h.hb.size (λx e=>by rw[e];exact m)),?_,?_,h.lr,?_,λi hi=>?_,h.apart⟩
 ·exact(c.block _ (lbk h.kc) (by have:=lbk h.kc;omega)).trans h.kc
 ·exact(c.block _ (lbk h.kr) (by have:=lbk h.kr;omega)).trans h.kr
 ·exact AG h.top (Ms c) (λb hb=>l b (World.ownsRow.lt h.top b hb).2)
 exact AG (h.row i hi) (Ms c) (λb hb=>l b (World.ownsRow.lt (h.row i hi) b hb).2)
def ApI.next{C:Nat}{fv:Value}{φ:Int->Int->Int × Int}(h:ApI w wr C rb g q fv D φ R A)(L:q<D.n)
  (s:∀i,i<q->(R i).ownBlock≠some c) (m:wr.ownsRow w.heap.size 59 4 (.slice (some (Ad c 0)) (D.na q) (D.na q)) (D.na q) (cat (arc4 (D.sym φ) q) (D.na q))) :
  ApI w (wr.setCell (Ad g (q*2+1)) (.slice (some (Ad c 0)) (D.na q) (D.na q))) C rb g (q+1) fv D φ (λi=>if i=q then .slice (some (Ad c 0)) (D.na q) (D.na q) else R i) A:=by
 have F:=World.ownsRow.lt h.top g rfl;obtain⟨N,z⟩:=Wh h.top;have E:C≠g:=λe=>by
  have:=h.kc;rw[e,z]at this;simp at this
 have H:rb≠g:=λe=>by
  have:=h.kr;rw[e,z]at this;simp at this
 have o:∀{v:Value} {n:Nat} {I:List Value},wr.ownsRow w.heap.size 59 4 v n I->v.ownBlock≠some g:=λ{v n I} B=>Hv h.top B (by decide) rfl;have O:∀i,i<q+1->((λi=>if i=q then Value.slice (some (Ad c 0)) (D.na q) (D.na q) else R i) i).ownBlock≠some g:=λi hi=>by
  dsimp only
  split
  ·exact o m
  exact o<|h.row i (by omega)
 refine⟨h.hb.setCell (p:=(Ad g (q*2+1))) F.1 _,?_,?_,h.lr,?_,λi hi=>?_,λi j hi P G b hb=>?_⟩
 ·rw[Ay E];exact h.kc
 ·rw[Ay H];exact h.kr
 ·have B:=EA h.top (q*2+1) (.slice (some (Ad c 0)) (D.na q) (D.na q));rw[DT (Dq D _) (by omega) _ L]at B;rw[show cat (st2 D (λi=>if i<q+1 then (if i=q then Value.slice (some (Ad c 0)) (D.na q) (D.na q) else R i) else A i)) D.n=_ from BC (d:=λk=>if k=q then (st2 D (λi=>if i<q then R i else A i) q).set 1 (.slice (some (Ad c 0)) (D.na q) (D.na q)) else st2 D (λi=>if i<q then R i else A i) k) (λk Q=>?_)]
  ·exact B
  by_cases e:k=q
  ·subst e;simp[st2]
  by_cases u:k<q
  ·simp[st2,e,u,show k<q+1 by omega]
  simp[st2,e,u,show ¬k<q+1 by omega]
 ·by_cases e:i=q
  ·subst e;show (wr.setCell _ _).ownsRow _ _ 4 (if i=i then _ else R i) _ _
   rw[ifp rfl];exact BG m (o m) _
  show (wr.setCell _ _).ownsRow _ _ 4 (if i=q then _ else R i) _ _
  rw[ifn e];exact BG (h.row i (by omega)) (o (h.row i (by omega))) _
 have l:(if i=q then Value.slice (some (Ad c 0)) (D.na q) (D.na q) else R i).ownBlock=some b:=hb
 show (if j=q then Value.slice (some (Ad c 0)) (D.na q) (D.na q) else R j).ownBlock≠some b
 by_cases e:i=q
 ·rw[ifp e]at l;rw[ifn (by omega)];have u:c=b:=by simpa [Value.ownBlock] using l
  rw[<-u];exact s j (by omega)
 rw[ifn e]at l;by_cases u:j=q
 ·rw[ifp u];intro J;have K:c=b:=by simpa [Value.ownBlock] using J
  exact s i (by omega) (by rw[K];exact l)
 rw[ifn u];exact h.apart i j (by omega) (by omega) G b l
def ApI.own{fv:Value}{φ:Int->Int->Int × Int}(h:ApI w wr c rb g D.n fv D φ R A):OwM wr w.heap.size (.slice (some (Ad g 0)) D.n D.n) (D.sym φ) R:=by
 refine⟨?_,h.row,h.apart⟩;show wr.ownsRow _ _ 2 _ D.n (cat (st2 (D.sym φ) R) D.n);rw[show cat (st2 (D.sym φ) R) D.n=cat (st2 D (λi=>if i<D.n then R i else A i)) D.n from BC λi hi=>by
  show [Value.string (D.fin i),R i]=[Value.string (D.fin i),if i<D.n then R i else A i]
  rw[ifp hi]]
 exact h.top
def OwM.box4{a0 m o a3:Value}(h:OwM w B sv D R)(hb:w.heap[rb]?=some (.cells #[a0,m,o,a3] 25 (0,0)))(g j k l:Value):
  OwM ((((w.setCell (Ad rb 0) g).setCell (Ad rb 1) j).setCell (Ad rb 2) k).setCell (Ad rb 3) l) B sv D R :=
 have d:=Az h.top hb (by decide);have c:=λi (hi:i<D.n)=>Az (h.row i hi) hb (by decide)
 (((h.other (p:=(Ad rb 0)) d c g).other (p:=(Ad rb 1)) d c j).other (p:=(Ad rb 2)) d c k).other (p:=(Ad rb 3)) d c l
def CJ(h:OwM w B sv D R)(o:c<=B):OwM w c sv D R :=
 have j:∀{e:TypeId} {s n:Nat} {v:Value} {xs:List Value},w.ownsRow B e s v n xs->w.ownsRow c e s v n xs:=λh=>⟨h.1,h.2.imp id (λ⟨g,d,cur,k,l,m⟩=>⟨g,d,cur,k,Nat.le_trans o l,m⟩)⟩
 ⟨j h.top,λi hi=>j (h.row i hi),h.apart⟩
def OwM.ma(h:OwM w B sv D R)(hb:Below w.heap.size w w'):Ma none w' (.agg #[.int .i64 D.kind,.int .i64 D.start,.string D.lead,sv]) D:=⟨sv,rfl,h.sts.kept (Ae hb none)⟩
variable{F:Nat->Prop}{db:Nat}{one:ByteArray}{ac fl:Int}
def BlS(F:Nat->Prop)(B db:Nat)(D:MD)(one:ByteArray)(ac fl:Int)(w:World):Prop:=∃R sv,Bld w B db D R sv one ac fl/\∀b,F b->b≠db/\Fre w sv R D.n b
def BlN(F:Nat->Prop)(B db:Nat)(D:MD)(one:ByteArray)(ac fl:Int)(w w':World):Prop:=BlS F B db D one ac fl w'/\(∀b,F b->w'.heap[b]?=w.heap[b]?)/\Below B w w'
theorem BlN.trans{F:Nat->Prop}{B db:Nat}{D i:MD}{one:ByteArray}{ac fl c d:Int}{w w' j:World}(h:BlN F B db D one ac fl w w')(g:BlN F B db i one c d w' j):BlN F B db i one c d w j :=
 ⟨g.1,λb hb=>(g.2.1 b hb).trans (h.2.1 b hb),h.2.2.trans g.2.2⟩
theorem BlS.lt{F:Nat->Prop}{B db:Nat}{D:MD}{one:ByteArray}{ac fl:Int}{w:World}(h:BlS F B db D one ac fl w):db<w.heap.size/\B<=db/\∀b,F b->b<w.heap.size:=by
 obtain⟨R,sv,c,d⟩:=h;exact⟨c.lt,c.low,λb hb=>(d b hb).2.1⟩
theorem BlS.kept{F:Nat->Prop}{B db:Nat}{D:MD}{one:ByteArray}{ac fl:Int}{w w':World}(h:BlS F B db D one ac fl w)(hb:Below w.heap.size w w'):BlS F B db D one ac fl w':=by
 obtain⟨R,sv,c,d⟩:=h;exact⟨R,sv,⟨(hb.block _ c.lt).trans c.blk,c.own.kept (Ae hb none) (by simp),c.low⟩,λb g=>⟨(d b g).1,Nat.lt_of_lt_of_le (d b g).2.1 hb.size,(d b g).2.2⟩⟩
def LB(f:ByteArray)(w:World)(h:BlS F B db D one ac fl w)(o:B<=w.heap.size)(hn:D.n<=100000):
  Calls prog 111 #[.pointer (some (Ad db 0)),.string f] w (λr w'=>r=.returned (.int .i64 (D.n:Int))/\BlN F B db (D.state f) one ac fl w w'):=by
 obtain⟨R,sv,k,c⟩:=h;refine(QS f w k o hn).mono λr w' i=>⟨i.1,?_⟩;obtain⟨⟨j,d,l,g⟩,m⟩:=i.2;exact⟨⟨j,d,l,λb hb=>⟨(c b hb).1,(g b (c b hb).1 (c b hb).2).1⟩⟩,λb hb=>(g b (c b hb).1 (c b hb).2).2,m⟩
def QH{q:Nat}(a b t:Int)(x:ByteArray)(w:World)(h:BlS F B db D one ac fl w)(d:0<=ac)(g:ac<=100000)(u:B<=w.heap.size)(z:q<D.n)(hn:D.n<=100000)(i:D.na q<=100000):
  Calls prog 112 #[.pointer (some (Ad db 0)),.int .i64 (q:Int),.agg #[.int .i64 a,.int .i64 b,.string x,.int .i64 t]] w (λr w'=>r=.returned (.tuple #[])/\BlN F B db (D.arc q a b x t) one (ac+1) fl w w'):=by
 obtain⟨R,sv,o,c⟩:=h;refine(QI a b t x w o d g u z hn i).mono λr w' l=>⟨l.1,?_⟩;obtain⟨⟨m,j,p,k⟩,s⟩:=l.2;exact⟨⟨m,j,p,λb hb=>⟨(c b hb).1,(k b (c b hb).1 (c b hb).2).1⟩⟩,λb hb=>(k b (c b hb).1 (c b hb).2).2,s⟩
def QR(k:Int)(w:World):Calls prog 110 #[.int .i64 k] w (λr w'=>∃db,r=.returned (.pointer (some (Ad db 0)))/\BlS (λ_=>False) w.heap.size db (BO k 0 (oneF k)) (oneF k) 0 0 w'/\Below w.heap.size w w'/\w.heap.size<=db):=by
 go_enter func110,ntmps110
 go_wp2_with fail
 refine(Gg k w).mono ?_;rintro r j⟨rfl,c⟩;have d:=c.alloc c.size (.cells (bcs (BO k 0 (oneF k)) (.slice none 0 0) (oneF k) 0 0) 144);have i:=c.size;have g:BlS (λ_=>False) w.heap.size j.heap.size (BO k 0 (oneF k)) (oneF k) 0 0 (j.alloc (.cells (bcs (BO k 0 (oneF k)) (.slice none 0 0) (oneF k) 0 0) 144)) :=
  ⟨λ_=>.slice none 0 0,.slice none 0 0,⟨han j _,OwM.empty _ _ _ _ _ _,i⟩,λ_ h=>h.elim⟩
 replace d:=qh d;clear c;replace g:=qh g;go_wp2;go_ret;exact⟨_,rfl,g.o,d.o,i⟩
def BlN.refl{w:World}(h:BlS F B db D one ac fl w):BlN F B db D one ac fl w w:=⟨h,λ_ _=>rfl,blr⟩
end
section
open Go.RowKit Go.Deep
variable{F:Nat->Prop}{B db:Nat}{D:MD}{one:ByteArray}{ac fl:Int}{w:World}
def dnOk(fl:Int)(n:Nat)(ac:Int):Prop:=fl=0/\n<=3000/\ac<=30000
def DnE(B:Nat)(D:MD)(ok:Prop)(w:World)(r:Ending)(w':World):Prop :=
 Below w.heap.size w w'/\((ok/\∃sv R,r=.returned (.tuple #[.agg #[.int .i64 D.kind,.int .i64 D.start,.string D.lead,sv],.int .i64 0])/\OwM w' B sv D R)\/(¬ok/\r=.returned (.tuple #[AP,.int .i64 2])))
def QL(w:World)(h:BlS F B db D one ac fl w)(hn:D.n<=100000)(Z:ac<=1000000)(K:0<=ac):
  Calls prog 114 #[.pointer (some (Ad db 0))] w (DnE B D (dnOk fl D.n ac) w):=by
 obtain⟨R,sv,i,Y⟩:=h;obtain⟨sa,sc,J,_,_⟩:=Au i.own.top;subst J;obtain⟨p,g⟩:=exq<|w.alloc (.cells #[.int .i64 0,.int .i64 0,.string ⟨#[]⟩,.slice none 0 0] 25);obtain⟨G,E⟩:=exq<|w.heap.size;have l:Fr (λ_=>False) w p:=by rw[g];exact Fr.alloc _ _
 have m:p.heap[G]?=some (.cells #[.int .i64 0,.int .i64 0,.string ⟨#[]⟩,.slice none 0 0] 25 (0,0)):=by rw[g,E];exact han w _
 have c:=(l.block _ i.lt (λe=>e)).trans i.blk;have k:Below w.heap.size w p:=l.below nlr (λ_ e=>e.elim);have C:OwM p B (.slice sa D.n sc) D R:=i.own.kept (Ae k none) (by simp);have a2:w.heap.size<=G:=by omega
 have a1:db≠G:=by have:=i.lt;omega
 have L:=BlkB.c0 c;have N:=BlkB.c1 c;have O:=BlkB.c2 c;have P:=BlkB.c3 c;have Q:=BlkB.c5 c;have S:=BlkB.c6 c;rw[g]at L N O P Q S;obtain⟨⟨r0,r1,r2,r3⟩,H⟩:=cells4 m;have T:=H 0;have U:=H 1;have W:=H 2;have X:=H 3;clear H;rw[g,E]at r0 r1 r2 r3 T U W X;have a4:((D.n:Nat):Int)<=100000:=by omega
 replace m:=qh m;replace k:=qh k;replace C:=qh C;replace i:=qh i;clear Y;replace c:=qh c;clear l;by_cases u:fl=0
 ·subst u;by_cases o:D.n<=3000;have A:decide ((3000:Int)<(D.n:Int))=false:=by simp;omega
  by_cases j:ac<=30000
  ·have s:decide ((30000:Int)<ac)=false:=by simp;omega
   have I:=qh<|show dnOk 0 D.n ac from ⟨rfl,o,j⟩
   go_enter func114,ntmps114
   go_wp2_with fail
   exact bodyPost_ret (AJ rfl _ (b:=w.heap.size) rfl rfl (han w _)) rfl ⟨(Below.refl _ w).alloc nlr _,.inl ⟨I.o,_,R,rfl,i.o.own.kept (z:=none) (World.grownBy_alloc _ _ _) (by simp)⟩⟩
  have s:(30000:Int)<ac:=by omega
  have d:=qh<|show ¬dnOk 0 D.n ac from λh=>j h.2.2;clear j
  rotate_left
  have A:(3000:Int)<(D.n:Int):=by omega
  have d:=qh<|show ¬dnOk 0 D.n ac from λh=>o h.2.1;clear o
  all_goals
   go_enter func114,ntmps114
   go_wp2_with fail
   exact bodyPost_ret (AJ rfl _ (b:=w.heap.size) rfl rfl (han w _)) rfl ⟨(Below.refl _ w).alloc nlr _,.inr ⟨d.o,rfl⟩⟩
 have d:=qh<|show ¬dnOk fl D.n ac from λh=>u h.1
 go_enter func114,ntmps114
 go_wp2_with fail
 exact bodyPost_ret (AJ rfl _ (b:=w.heap.size) rfl rfl (han w _)) rfl ⟨(Below.refl _ w).alloc nlr _,.inr ⟨d.o,rfl⟩⟩
def BlS.old(h:BlS F B db D one ac fl w)(g:B<=w.heap.size):BlS (λb=>b<B) B db D one ac fl w:=by
 obtain⟨R,sv,c,d⟩:=h;refine⟨R,sv,c,λb hb=>⟨by have:=c.low;omega,by omega,λe=>?_,λi hi e=>?_⟩⟩
 ·have:=(World.ownsRow.lt c.own.top b e).1;omega
 have:=(World.ownsRow.lt (c.own.row i hi) b e).1;omega
section
variable{w:World}{db:Nat}{D:MD}{sv:Value}{one:ByteArray}{ac fl:Int}{t:TypeId}(h:w.heap[db]?=some (.cells (bcs D sv one ac fl) t (0,0)))
include h
theorem BlkB.set2(s:ByteArray):(w.setCell (Ad db 2) (.string s)).heap[db]?=some (.cells (bcs { D with lead:=s } sv one ac fl) t (0,0)):=by
 unfold bcs at h ⊢;simp[World.setCell,Array.getElem?_modify,h]
end
theorem BlS.lead(h:BlS F B db D one ac fl w)(s:ByteArray):BlS F B db { D with lead:=s } one ac fl (w.setCell (Ad db 2) (.string s)):=by
 obtain⟨R,sv,c,d⟩:=h;have g:=c.own.other (p:=(Ad db 2)) (Az c.own.top c.blk (by decide)) (λi hi=>Az (c.own.row i hi) c.blk (by decide)) (.string s);exact⟨R,sv,⟨BlkB.set2 c.blk s,⟨g.top,g.row,g.apart⟩,c.low⟩,λb hb=>⟨(d b hb).1,by rw[nblk_setCell];exact(d b hb).2.1,(d b hb).2.2⟩⟩
theorem BlS.cells(h:BlS F B db D one ac fl w):(∃v,w.cell? (Ad db 1)=some (.int .i64 v))/\w.cell? (Ad db 2)=some (.string D.lead)/\∀j,w.frozen? (Ad db j)=false:=by
 obtain⟨R,sv,c,d⟩:=h;exact⟨⟨_,BlkB.c1 c.blk⟩,BlkB.c2 c.blk,BlkB.fz c.blk⟩
end
section
open Go.RowKit Go.Deep
variable{x:Nat->Int}{n:Nat}{v:Value}
def SA:∀args w,(callFunc 153 args).run prog w=.ok (.enter 153 args) w:=λargs w=>by kernel_rfl
def QT(w:World)(s:Int):Calls prog 154 #[.int .i64 s] w (λr w'=>r=.returned (.bool (!offI 500 s))/\w'=w):=by
 by_cases g:1<=s
 ·go_enter func154,ntmps154
  go_wp2;go_ret;exact⟨AH (by
   unfold offI;rw[show decide (s<1)=false by simp;omega];by_cases c:s<=500
   ·simp[c]
   simp[c];omega),rfl⟩
 have d:decide (1<=s)=false:=by simp;omega
 go_enter func154,ntmps154
 go_wp2;go_ret;exact⟨AH (by unfold offI;rw[show decide (s<1)=true by simp;omega];rfl),rfl⟩
def QX(w:World)(s:Int):Calls prog 153 #[.int .i64 s] w (λr w'=>r=.returned (.bool (offI 500 s))/\w'=w):=by
 have c:=qh<|QT w s
 go_enter func153,ntmps153
 go_wp2_with fail
 refine c.o.mono ?_;rintro r d⟨rfl,rfl⟩;go_wp2;go_ret;exact⟨AH (by simp),rfl⟩
def II(w:World)(d:Si none w v n x)(hn:(n:Int)<=9223372036854775807):
  Calls prog 109 #[v] w (λr w'=>r=.returned (.bool (isWord n x))/\w'=w):=by
 have c:=Ry w d hn (show TstF 153 #[] (offI 500) w from ⟨SA,λs=>by
  rw[show ∀a:Value,(#[a]++#[]:Array Value)=#[a] from λ_=>rfl];exact QX w s⟩)
 obtain⟨a,g,rfl⟩:=d.shape;replace c:=qh c;clear d;by_cases h:(n:Int)<=200
 ·go_enter func109,ntmps109
  go_wp2_with fail
  refine c.o.mono ?_;rintro r j⟨rfl,rfl⟩;go_wp2;go_ret;exact⟨AH (by unfold isWord DK;rw[show decide (n<=200)=true by simp;omega];simp),rfl⟩
 have i:decide ((n:Int)<=200)=false:=by simp;omega
 go_enter func109,ntmps109
 go_wp2;go_ret;exact⟨AH (by unfold isWord;rw[show decide (n<=200)=false by simp;omega];rfl),rfl⟩
def Lw{i:Nat}(w:World)(j:Si none w v n x):Calls prog 113 #[v,.int .i64 (i:Int)] w (λr w'=>r=.returned (.int .i64 (atW n x i))/\w'=w):=by
 obtain⟨a,l,b,s,rfl,g,u,m,hb,c⟩:=j.open;unfold maxLen at m;by_cases h:i<n
 ·have o:(i:Int)<(n:Int):=by omega
  have p:(0:Int)<=(i:Int):=by omega
  obtain rfl:=g (by omega);have c0:=c i h;have e:atW n x i=x i:=ifp h;rw[e];obtain⟨k,d⟩:=exq<|x i;rw[<-d]at c0;rw[<-d];clear c j hb g e d
  go_enter func113,ntmps113
  go_wp2;go_ret;exact⟨rfl,rfl⟩
 have o:¬((i:Int)<(n:Int)):=by omega
 have e:atW n x i=0:=ifn h;rw[e];clear c j hb g e
 go_enter func113,ntmps113
 go_wp2;go_ret;exact⟨rfl,rfl⟩
theorem CQ(kind:Int)(na:Nat)(x:Nat->Int)(nb:Nat)(y:Nat->Int)(v:ByteArray):∀i,(AO kind na x nb y v i).n=i+1
 |0=>rfl
 |i+1=>by
  show (AO kind na x nb y v i).n+1=_;rw[CQ kind na x nb y v i]
theorem PX(kind:Int)(na:Nat)(x:Nat->Int)(nb:Nat)(y:Nat->Int)(v:ByteArray):∀i p,(AO kind na x nb y v i).na p<=i
 |0,p=>by show (if p=0 then 0 else 0)<=0;split<;>omega
 |i+1,p=>by
  have h1:=PX kind na x nb y v i;show (if p=i then (if i=(AO kind na x nb y v i).n then 0 else (AO kind na x nb y v i).na i)+1 else (if p=(AO kind na x nb y v i).n then 0 else (AO kind na x nb y v i).na p))<=i+1
  have h2:=h1 i;have h3:=h1 p
  split<;>split<;>omega
theorem Gt(kind:Int)(na:Nat)(x:Nat->Int)(nb:Nat)(y:Nat->Int)(v:ByteArray):∀i,(AO kind na x nb y v i).kind=kind/\(AO kind na x nb y v i).start=0/\(AO kind na x nb y v i).lead=v
 |0=>⟨rfl,rfl,rfl⟩
 |i+1=>Gt kind na x nb y v i
def Yv(kind:Int)(na:Nat)(x:Nat->Int)(nb:Nat)(y:Nat->Int)(v:ByteArray):Prop:=isWord na x=true/\isWord nb y=true/\Am kind v=true
theorem Bld.c4{w:World}{B db:Nat}{D:MD}{R:Nat->Value}{sv:Value}{one:ByteArray}{ac fl:Int}(h:Bld w B db D R sv one ac fl):w.cell? (Ad db 4)=some (.string one):=BlkB.c4 h.blk
theorem BlS.one{F:Nat->Prop}{B db:Nat}{D:MD}{one:ByteArray}{ac fl:Int}{w:World}(h:BlS F B db D one ac fl w):w.cell? (Ad db 4)=some (.string one):=by
 obtain⟨R,sv,c,d⟩:=h;exact c.c4
def IE{kind:Int}{xv yv:Value}{na nb:Nat}{y:Nat->Int}{v:ByteArray}(w:World)(hx:Si none w xv na x)(hy:Si none w yv nb y)(j0:(na:Int)<=9223372036854775807)(j1:(nb:Int)<=9223372036854775807)(hv:smS v)(ht:Tab w)(Y:Yv kind na x nb y v):
  Calls prog 59 #[.int .i64 kind,xv,yv,.string v] w (λr w'=>Below w.heap.size w w'/\∃sv R,r=.returned (.tuple #[.agg #[.int .i64 kind,.int .i64 0,.string v,sv],.int .i64 0])/\OwM w' w.heap.size sv (Cs kind na x nb y v) R):=by
 obtain⟨ax,cx,rfl⟩:=hx.shape;obtain⟨ay,cy,rfl⟩:=hy.shape;obtain⟨a5,a6,h6⟩:=Y;have j5:na<=200:=by unfold isWord at a5;simp at a5;exact a5.1
 have j6:nb<=200:=by unfold isWord at a6;simp at a6;exact a6.1
 obtain⟨w1,b2⟩:=exq<|w.alloc (.cells #[.int .i64 0,.int .i64 0,.string ⟨#[]⟩,.slice none 0 0] 25);obtain⟨rb,e5⟩:=exq<|w.heap.size;have O:Below w.heap.size w w1:=by rw[b2];exact(Below.refl _ w).alloc nlr _
 have g9:w1.heap[rb]?=some (.cells #[.int .i64 0,.int .i64 0,.string ⟨#[]⟩,.slice none 0 0] 25 (0,0)):=by rw[b2,e5];exact han w _
 have i9:w.heap.size<=rb:=by omega
 have b0:∀W,Below w.heap.size w W->Si none W (.slice ax na cx) na x:=λW h=>hx.kept (Ae h none);have b1:∀W,Below w.heap.size w W->Si none W (.slice ay nb cy) nb y:=λW h=>hy.kept (Ae h none);have d8:=qh<|II w1 (b0 w1 O) j0;have d9:=qh<|II w1 (b1 w1 O) j1;have e8:=Hz kind v w1 hv (ht.below O nlr);rw[h6]at e8;rw[a5]at d8;rw[a6]at d9;have g2:=qh e8;clear e8 a5 a6 h6 ht;replace b0:=qh b0;clear hx;replace b1:=qh b1;clear hy;have d6:=qh O;clear O;have d7:=qh g9;clear g9
 go_enter func59,ntmps59
 go_wp2_with fail
 rw[<-b2,<-e5];clear b2 e5;refine d8.o.mono ?_;rintro r k9⟨rfl,rfl⟩
 go_wp2_with fail
 refine d9.o.mono ?_;rintro r j7⟨rfl,rfl⟩
 go_wp2_with fail
 refine g2.o.mono ?_;rintro r w2⟨rfl,e0⟩;have u:=d6.o.trans<|e0.mono d6.o.size;have a8:=(e0.block _ (lbk d7.o)).trans d7.o;have b7:=qh<|QR kind w2;replace u:=qh u;clear e0 d6 d8 d9 g2;replace a8:=qh a8;clear d7
 go_wp2_with fail
 refine b7.o.mono ?_;rintro r w3⟨H,rfl,e1,Q,g8⟩;obtain⟨B,c⟩:=exq<|w2.heap.size;rw[<-c]at e1 Q g8;have e7:w.heap.size<=B:=by rw[c];exact u.o.size
 have i3:B<=w3.heap.size:=by rw[c];rw[c]at Q;exact Q.size
 have S:=e1.old i3;obtain⟨⟨v1,h8⟩,h9,g3⟩:=S.cells;have i2:=g3 2;clear g3 h8;obtain⟨w4,b3⟩:=exq<|w3.setCell ⟨H,2,none⟩ (.string v);have b8:BlS (λb=>b<B) B H (BO kind 0 v) (oneF kind) 0 0 w4:=by rw[b3];exact S.lead v
 have E:Below B w2 w4:=by rw[b3];exact Q.setCell (p:=(Ad H 2)) g8 _
 have i4:B<=w4.heap.size:=by rw[c];rw[c]at E;exact E.size
 have I:=qh (LB ⟨#[]⟩ w4 b8 i4 (by show 0<=100000;omega));have b5:=qh E;clear E Q e1 S b8 b7;replace c:=qh c
 go_wp2_with fail
 rw[<-b3];clear b3 h9 i2;refine I.o.mono ?_;rintro r w5⟨rfl,a9⟩;have h3:(BO kind 0 v).state ⟨#[]⟩=AO kind na x nb y v 0:=rfl;rw[h3]at a9;have b9:BlN (λb=>b<B) B H (AO kind na x nb y v 0) (oneF kind) ((0:Nat):Int) 0 w5 w5:=BlN.refl a9.1;have z:=b5.o.trans a9.2.2;have b6:=qh b9;clear b9 a9 h3 I;replace z:=qh z;clear b5;obtain⟨m,hm⟩:=exq<|max na nb;have k6:m<=200:=by omega
 have h0:max (na:Int) (nb:Int)=(m:Int):=by omega
 replace hm:=qh hm
 go_wp2_with fail
 clear h0
 go_loopw [11,43] (λj2 f5 wr=>∃i:Nat,i<=m/\j2=.int .i64 (i:Int)/\f5=.int .i64 (i:Int)/\BlN (λb=>b<B) B H (AO kind na x nb y v i) (oneF kind) (i:Int) 0 w5 wr) (λ_ f5 _=>m-(intOf f5).toNat)
 case atStart=>exact⟨0,Nat.zero_le _,rfl,rfl,b6.o⟩
 obtain⟨i,hi,rfl,rfl,g7⟩:=hrel;clear b6;have G:=qh g7;clear g7;have T:=z.o.trans G.o.2.2;have g4:B<=wr.heap.size:=by rw[c.o];rw[c.o]at T;exact T.size
 have j9:B<=w5.heap.size:=by have h:=z.o;rw[c.o];rw[c.o]at h;exact h.size
 by_cases k5:i<m
 ·have k4:(i:Int)<(m:Int):=by omega
  have e6:=LB ⟨#[]⟩ wr G.o.1 g4 (by rw[CQ];omega);rw[CQ]at e6;have I:=qh e6;clear e6 T
  go_wp2_with fail
  refine I.o.mono ?_;rintro r w6⟨rfl,h2⟩;obtain⟨o,D⟩:=exq<|w6.drew;have U:Fr (λ_=>False) w6 o:=by rw[D];exact(Fr.refl _ _).drew
  have j:Below w6.heap.size w6 o:=U.below nlr (λ_ e=>e.elim);have A:BlN (λb=>b<B) B H ((AO kind na x nb y v i).state ⟨#[]⟩) (oneF kind) (i:Int) 0 w5 o:=by
   have h1:=G.o.trans h2;exact⟨h1.1.kept j,λb hb=>(j.block b (h1.1.lt.2.2 b hb)).trans (h1.2.1 b hb),h1.2.2.trans (j.mono (by have:=h1.2.2.size;omega))⟩
  have l:Below B w2 o:=z.o.trans A.2.2;have N:Below w.heap.size w o:=u.o.trans<|l.mono e7;have c4:=A.1.one;have i5:B<=o.heap.size:=by rw[c.o];rw[c.o]at l;exact l.size
  have d2:=qh<|Lw (i:=i) o (b0.o o N);have d5:=qh<|Lw (i:=i) o (b1.o o N);have e4:((AO kind na x nb y v i).state ⟨#[]⟩).n=i+2:=by show (AO kind na x nb y v i).n+1=_;rw[CQ]
  have d1:((AO kind na x nb y v i).state ⟨#[]⟩).na i<=100000:=by
   show (if i=(AO kind na x nb y v i).n then 0 else (AO kind na x nb y v i).na i)<=100000
   have:=PX kind na x nb y v i i
   split<;>omega
  have s:=QH (q:=i) (atW na x i) (atW nb y i) ((i+1:Nat):Int) (oneF kind) o A.1 (by omega) (by omega) i5 (by rw[e4];omega) (by rw[e4];omega) d1;rw[show ((AO kind na x nb y v i).state ⟨#[]⟩).arc i (atW na x i) (atW nb y i) (oneF kind) ((i+1:Nat):Int)=AO kind na x nb y v (i+1) from rfl,show (i:Int)+1=((i+1:Nat):Int) by omega]at s;obtain⟨on,C⟩:=exq<|oneF kind;rw[<-C]at c4 s;obtain⟨xi,e9⟩:=exq<|atW na x i;obtain⟨yi,f4⟩:=exq<|atW nb y i;rw[<-e9,<-f4]at s;rw[<-e9]at d2;rw[<-f4]at d5;have f9:=qh C;clear C;clear e9 f4;have b4:=qh s;clear s;have f8:=qh A;clear A h2 I G U j e4 d1 l N
  go_wp2_with fail
  refine AD (λwk=>wk.cell? (Ad H 4)=some (.string on)) 14 (by kernel_rfl) ?_;rw[<-D];clear D;refine Aa.tm 0 c4 ?_;refine Aa.tm 1 c4 ?_;refine Aa.tm 2 c4 ?_;refine Aa.tm 3 c4 ?_;refine Aa.tm 5 c4 ?_;refine Aa.tm 6 c4 ?_;refine Aa.tm 8 c4 ?_;refine Aa.tm 9 c4 ?_;refine Aa.tm 10 c4 ?_;refine Aa.tm 11 c4 ?_;refine Aa.tm 12 c4 ?_
  try simp only[Act.put,tryL]
  refine Aa.on 4 λK J=>?_;go_simp;refine d2.o.mono ?_;rintro r l0⟨rfl,rfl⟩;refine J.out _ _ (.inr c4) ?_;clear J K
  try simp only[Act.put,tryL]
  refine Aa.on 7 λK J=>?_;go_simp;refine d5.o.mono ?_;rintro r j8⟨rfl,rfl⟩;refine J.out _ _ (.inr c4) ?_;clear J K
  try simp only[Act.put,tryL]
  refine Aa.tm 13 c4 ?_
  try simp only[Act.put,tryL]
  refine Aa.on 14 λK J=>?_;go_simp;refine b4.o.mono ?_;rintro r w7⟨rfl,e3⟩;refine J.out _ _ (.inl rfl) (Aa.dn ?_);clear J K c4;rw[f9.o]at e3;have h7:=qh<|f8.o.trans e3;clear e3 b4 f8 d2 d5;go_wp2;go_roundw
  case rel=>exact⟨i+1,by omega,by go_num,by go_num,h7.o⟩
  simp[intOf];omega
 have i8:m=i:=by omega
 subst i8;have j3:¬((m:Int)<(m:Int)):=by omega
 obtain⟨o,D⟩:=exq<|wr.drew;have U:Fr (λ_=>False) wr o:=by rw[D];exact(Fr.refl _ _).drew
 have j:Below wr.heap.size wr o:=U.below nlr (λ_ e=>e.elim);have g6:=G.o.1.kept j;have l:Below B w2 o:=T.trans<|j.mono g4;obtain⟨R,sv,k,a7⟩:=g6;obtain⟨g,cp,rfl,i7,k0,_,_⟩:=Ed k.own.top (by rw[CQ];omega);have d3:=BlkB.c3 k.blk;have d4:=BlkB.c4 k.blk;have g0:=k.own.fin_cell (i:=m) (by rw[CQ];omega);have fg:=DD k.own.top (m*2);have h4:=k.own.setFin (q:=m) (by rw[CQ];omega) (oneF kind);rw[CQ]at d3;have i6:H≠g:=λe=>Az k.own.top k.blk (by decide) (by rw[e];rfl);obtain⟨w8,a1⟩:=exq<|o.setCell ⟨g,m*2,none⟩ (.string (oneF kind));have d0:BlS (λb=>b<B) B H (Cs kind na x nb y v) (oneF kind) (m:Int) 0 w8:=by
  have e:Cs kind na x nb y v=(AO kind na x nb y v m).setFin m (oneF kind):=by unfold Cs;rw[<-hm.o]
  rw[e,a1];refine⟨R,_,⟨by rw[Ay i6];exact k.blk,h4,k.low⟩,λb hb=>⟨(a7 b hb).1,by rw[nblk_setCell];exact(a7 b hb).2.1,(a7 b hb).2.2⟩⟩
 have F:Below B w2 w8:=by rw[a1];exact l.setCell (p:=(Ad g (m*2))) i7 _
 have d:o.cell? (Ad H 3)=some (.slice (some (Ad g 0)) (m+1) cp)/\o.cell? (Ad H 4)=some (.string (oneF kind)):=⟨d3,d4⟩;have a4:(Cs kind na x nb y v).n=m+1:=by unfold Cs;rw[<-hm.o];exact CQ kind na x nb y v m
 have a2:(Cs kind na x nb y v).kind=kind/\(Cs kind na x nb y v).start=0/\(Cs kind na x nb y v).lead=v:=by unfold Cs;exact Gt kind na x nb y v _
 have e2:=QL w8 d0 (by rw[a4];omega) (by omega) (by omega);rw[a4]at e2;have f7:=qh e2;clear e2 d0;have h0:(m:Int)<(m:Int)+1:=by omega
 have j4:(0:Int)<=(m:Int):=by omega
 obtain⟨on,C⟩:=exq<|oneF kind;rw[<-C]at d a1;have f9:=qh C;clear C;replace F:=qh F;clear l T;replace a2:=qh a2;replace a4:=qh a4;clear d3 d4 k a7 h4 G U j
 go_wp2_with fail
 refine AD (λwk=>wk.cell? (Ad H 3)=some (.slice (some (Ad g 0)) (m+1) cp)/\wk.cell? (Ad H 4)=some (.string on)) 12 (by kernel_rfl) ?_;rw[<-D];clear D;refine Aa.tm 0 d ?_;refine Aa.tm 1 d ?_;refine Aa.tm 2 d ?_;refine Aa.tm 3 d ?_;refine Aa.tm 4 d ?_;refine Aa.tm 5 d ?_;refine Aa.tm 6 d ?_;refine Aa.tm 7 d ?_;refine Aa.tm 8 d ?_;refine Aa.tm 9 d ?_;refine Aa.tm 10 d ?_;refine Aa.tm 11 d ?_
 try simp only[Act.put,tryL]
 refine Aa.on 12 λK J=>?_;go_simp;refine J.out _ _ (.inl rfl) (Aa.dn ?_);clear J K d g0 fg;rw[<-a1];clear a1
 go_wp2_with fail
 refine f7.o.mono ?_;rintro r w9⟨g5,hr⟩;have P:Below B w2 w9:=F.o.trans (g5.mono (by have h:=F.o;rw[c.o];rw[c.o]at h;exact h.size));have X:=(P.block _ (by rw[c.o];exact lbk a8.o)).trans a8.o;have L:=u.o.trans<|P.mono e7;clear g5 P f7;replace L:=qh L;replace X:=qh X;obtain⟨⟨r0,r1,r2,r3⟩,rz⟩:=cells4 X.o;have f0:=rz 0;have f1:=rz 1;have f2:=rz 2;have f3:=rz 3;clear rz
 rcases hr with⟨Y,k7,R',rfl,Z⟩|⟨Y,rfl⟩
 rotate_left
 ·exact absurd (show dnOk 0 (m+1) (m:Int) from ⟨rfl,by omega,by omega⟩) Y
 rw[a2.o.1,a2.o.2.1,a2.o.2.2];obtain⟨sa,sc,h5,_,_⟩:=Au Z.top;rw[a4.o]at h5;subst h5;have g1:=qh<|CJ (Z.box4 X.o (.int .i64 kind) (.int .i64 0) (.string v) (.slice sa (m+1) sc)) e7;clear Z Y
 go_wp2_with fail
 exact bodyPost_ret (AJ rfl _ (b:=rb) rfl rfl (AE w9 rb _ _ _ _ X.o)) rfl ⟨Ax L.o i9 _ _ _ _,_,R',rfl,g1.o⟩
variable{w:World}{b i:Nat}{c:Array Value}{t:TypeId}{f:Nat × Nat}{D:MD}{p:Nat->Prop}
def Bs{n:Nat}(h:w.heap[b]?=some (.cells c t f))(hn:n<=maxLen)(d:∀i,i<n->c[i]?=some (.int .i64 (x i))):Si none w (.slice (some (Ad b 0)) n n) n x :=
 .inr ⟨b,0,n,rfl,⟨lbk h,by simp⟩,nlr,hn,λi hi=>by rw[Nat.zero_add];exact cellOf h i (d i hi)⟩
def lt1(h:p 0):∀i,i<1->p i:=λi hi=>by
 have:i=0:=by omega
 subst this;exact h
def lt2(h:p 0)(c:p 1):∀i,i<2->p i:=λi hi=>by
 have:i=0\/i=1:=by omega
 rcases this with rfl|rfl<;>assumption
def Bd:1<=maxLen:=by unfold maxLen;omega
def EI:2<=maxLen:=by unfold maxLen;omega
def Dg(h:w.heap[b]?=some (.cells c t f))(hn:D.na i<=maxLen)
  (d:∀k,k<D.na i->c[k*4]?=some (.int .i64 (D.ain i k))/\c[k*4+1]?=some (.int .i64 (D.aout i k))/\c[k*4+2]?=some (.string (D.aw i k))/\c[k*4+3]?=some (.int .i64 (D.ato i k))):ArS none w (.slice (some (Ad b 0)) (D.na i) (D.na i)) D i :=
 .inr ⟨b,0,D.na i,rfl,⟨lbk h,by simp⟩,nlr,hn,λk g=>by
  obtain⟨c1,c2,c3,c4⟩:=d k g;rw[Nat.zero_add];exact⟨cellOf h _ c1,cellOf h _ c2,cellOf h _ c3,cellOf h _ c4⟩⟩
def QD(w:World)(h:D.na i=0):ArS none w (.slice none 0 0) D i:=.inl ⟨h,none,0,rfl,Nat.zero_le _⟩
def Gj{A:Nat->Value}(h:w.heap[b]?=some (.cells c t f))(hn:D.n<=maxLen)
  (d:∀i,i<D.n->c[i*2]?=some (.string (D.fin i))/\c[i*2+1]?=some (A i)/\ArS none w (A i) D i):StS none w (.slice (some (Ad b 0)) D.n D.n) D :=
 .inr ⟨b,0,D.n,A,rfl,⟨lbk h,by simp⟩,nlr,hn,λi hi=>by
  obtain⟨c1,c2,c3⟩:=d i hi;rw[Nat.zero_add];exact⟨cellOf h _ c1,cellOf h _ c2,c3⟩⟩
theorem KU{kind:Int}{na:Nat}{x:Nat->Int}{nb:Nat}{y:Nat->Int}{v:ByteArray}(hk:As kind=true)(hx:∀i,0<=atW na x i/\atW na x i<=500)(hy:∀i,0<=atW nb y i/\atW nb y i<=500){N:Nat}:∀i,i<N->BOk (AO kind na x nb y v i) N i
 |0,_=>(BOk.empty kind 0 v N).state (.inl rfl) nzl
 |i+1,hi=>by
  have ih:=KU (v:=v) hk hx hy i (N:=N) (by omega);have hkk:((AO kind na x nb y v i).state ⟨#[]⟩).kind=kind:=(Gt kind na x nb y v i).1;exact(ih.state (s:=⟨#[]⟩) (.inl rfl) nzl).put (hx i) (hy i) (by constructor<;>omega) (by rw[hkk];exact Ex hk) (Ew hk)
def Yt{kind:Int}{na:Nat}{nb:Nat}{y:Nat->Int}{v:ByteArray}(c:As kind=true)(k:∀i,0<=atW na x i/\atW na x i<=500)(l:∀i,0<=atW nb y i/\atW nb y i<=500)(j:smS v)(hn:max na nb<=1000):MSz (Cs kind na x nb y v):=by
 have d:=(Gt kind na x nb y v (max na nb));have g:=(KU (v:=v) c k l (N:=max na nb+1) (max na nb) (by omega)).setFin (q:=max na nb) (s:=oneF kind) (.inr (by rw[d.1];exact Ex c)) (Ew c);have h:(Cs kind na x nb y v).n=max na nb+1:=CQ kind na x nb y v _;exact g.msz (by show As (AO kind na x nb y v (max na nb)).kind=true;rw[d.1];exact c) (by show (AO kind na x nb y v (max na nb)).n<=_;rw[CQ];omega) (by show smS (AO kind na x nb y v (max na nb)).lead;rw[d.2.2];exact j) (by omega)
def TrueB(w:World)(r:Ending)(w':World):Prop:=r=.returned (.bool true)/\Below w.heap.size w w'
end
end Go.Proofs.YtpldocnhbdlgfaaGreatDoor
