/- Parts. -/
import Derived.Test.YteappjogmnogcaaGreatDoorZ15
namespace Go.Proofs.YteappjogmnogcaaGreatDoor
set_option maxRecDepth 100000
set_option linter.all false
set_option maxHeartbeats 16000000
open Go Tryz
section
open Go.RowKit Go.Deep
variable{D:MD}{l:Nat->ByteArray}{n t:Nat}{k:Int}{a b:ByteArray}{w:World}{sv:Value}
def addR(k:Int)(l:Nat->ByteArray)(t:Nat)(a b:ByteArray):WS :=
 if (Al k a b).2≠0 then (l,(Al k a b).2) else if (Am k (l t) (Al k a b).1).2=0 then (updS l t (Am k (l t) (Al k a b).1).1,0) else (l,(Am k (l t) (Al k a b).1).2)
def arcR(D:MD)(i o:Int)(v:Nat->ByteArray)(q k:Nat)(s:WS):WS:=if s.2≠0 then s else if D.ain q k=i/\D.aout q k=o then addR D.kind s.1 (D.ato q k).toNat (v q) (D.aw q k) else s
def AM(D:MD)(i o:Int)(v:Nat->ByteArray)(q:Nat):Nat->WS->WS
 |0,s=>s
 |k+1,s=>arcR D i o v q k (AM D i o v q k s)
def rowR(D:MD)(i o:Int)(v:Nat->ByteArray)(q:Nat)(s:WS):WS:=if v q=Af D.kind then s else AM D i o v q (D.na q) s
def Ak(D:MD)(i o:Int)(v:Nat->ByteArray):Nat->WS->WS
 |0,s=>s
 |q+1,s=>rowR D i o v q (Ak D i o v q s)
def zerR(k:Int):Nat->ByteArray:=λ_=>Af k
def sumR(k:Int)(a b:Nat->ByteArray):Nat->WS
 |0=>(λ_=>⟨#[]⟩,0)
 |i+1=>if (sumR k a b i).2≠0 then sumR k a b i else if (Am k (a i) (b i)).2≠0 then ((sumR k a b i).1,(Am k (a i) (b i)).2) else (updS (sumR k a b i).1 i (Am k (a i) (b i)).1,0)
def finR(D:MD)(v:Nat->ByteArray):Nat->WS
 |0=>(zerR D.kind,0)
 |q+1=>if (finR D v q).2≠0 then finR D v q else if D.fin q=⟨#[]⟩ then finR D v q else addR D.kind (finR D v q).1 0 (v q) (D.fin q)
def Dk(k:Int):smS (Af k):=by have:=GM k;unfold smS;omega
def GJ(h:∀j,smS (l j)){s:ByteArray}(c:smS s)(j:Nat):smS (updS l t s j):=by unfold updS;split;exact c;exact h j
def IW(h:∀j,smS (l j))(j:Nat):smS ((addR k l t a b).1 j):=by
 unfold addR
 split
 ·exact h j
 split
 ·exact GJ h (Ic k _ _) j
 exact h j
theorem GP{D:MD}{i o:Int}{v:Nat->ByteArray}{q:Nat}:∀(k:Nat) {s:WS},(∀j,smS (s.1 j))->∀j,smS ((AM D i o v q k s).1 j)
 |0,_,h=>h
 |k+1,s,h=>by
  have ih:=GP (D:=D) (i:=i) (o:=o) (v:=v) (q:=q) k h;intro j;unfold AM arcR
  split
  ·exact ih j
  split
  ·exact IW ih j
  exact ih j
theorem GC{D:MD}{i o:Int}{v:Nat->ByteArray}:∀(q:Nat) {s:WS},(∀j,smS (s.1 j))->∀j,smS ((Ak D i o v q s).1 j)
 |0,_,h=>h
 |q+1,s,h=>by
  have ih:=GC (D:=D) (i:=i) (o:=o) (v:=v) q h;intro j;unfold Ak rowR
  split
  ·exact ih j
  exact GP _ ih j
theorem Qz{k:Int}{a b:Nat->ByteArray}:∀(n:Nat) (j:Nat),smS ((sumR k a b n).1 j)
 |0,j=>by show smS ⟨#[]⟩;unfold smS;decide
 |n+1,j=>by
  have ih:=Qz (k:=k) (a:=a) (b:=b) n;unfold sumR
  split
  ·exact ih j
  split
  ·exact ih j
  exact GJ ih (Ic k _ _) j
theorem Ns{D:MD}{v:Nat->ByteArray}:∀(n:Nat) (j:Nat),smS ((finR D v n).1 j)
 |0,j=>Dk _
 |n+1,j=>by
  have ih:=Ns (D:=D) (v:=v) n;unfold finR
  split
  ·exact ih j
  split
  ·exact ih j
  exact IW ih j
theorem LZ{D:MD}{i o:Int}{v:Nat->ByteArray}{q:Nat}{s:WS}(h:s.2≠0):∀k,AM D i o v q k s=s
 |0=>rfl
 |k+1=>by unfold AM arcR;rw[LZ h k,ifp h]
theorem Yr{i o:Int}{v:Nat->ByteArray}{q:Nat}{s:WS}(h:s.2≠0):rowR D i o v q s=s:=by unfold rowR;split;rfl;exact LZ h _
theorem GB{D:MD}{i o:Int}{v:Nat->ByteArray}{s:WS}{m:Nat}(h:(Ak D i o v m s).2≠0):∀d,Ak D i o v (m+d) s=Ak D i o v m s
 |0=>rfl
 |d+1=>by show rowR D i o v (m+d) (Ak D i o v (m+d) s)=_;rw[GB h d,Yr h]
theorem GQ{D:MD}{i o:Int}{v:Nat->ByteArray}{q:Nat}{s:WS}{m:Nat}(h:(AM D i o v q m s).2≠0):∀d,AM D i o v q (m+d) s=AM D i o v q m s
 |0=>rfl
 |d+1=>by show arcR D i o v q (m+d) (AM D i o v q (m+d) s)=_;unfold arcR;rw[GQ h d,ifp h]
theorem Lm{k:Int}{a b:Nat->ByteArray}{m:Nat}(h:(sumR k a b m).2≠0):∀d,sumR k a b (m+d)=sumR k a b m
 |0=>rfl
 |d+1=>by show (if (sumR k a b (m+d)).2≠0 then sumR k a b (m+d) else _)=_;rw[Lm h d,ifp h]
theorem JF{D:MD}{v:Nat->ByteArray}{m:Nat}(h:(finR D v m).2≠0):∀d,finR D v (m+d)=finR D v m
 |0=>rfl
 |d+1=>by show (if (finR D v (m+d)).2≠0 then finR D v (m+d) else _)=_;rw[JF h d,ifp h]
def BxM(w:World)(b:Nat)(D:MD)(sv:Value):Prop:=w.heap[b]?=some (.cells #[.int .i64 D.kind,.int .i64 D.start,.string D.lead,sv] 24 (0,0))
def BxM.new(w:World)(D:MD)(sv:Value):BxM (w.alloc (.cells #[.int .i64 D.kind,.int .i64 D.start,.string D.lead,sv] 24)) w.heap.size D sv:=han w _
def BxM.kept{c:World}{b:Nat}{C:Nat->Prop}(h:BxM w b D sv)(hf:Fr C w c)(d:¬C b):BxM c b D sv:=(hf.block b (lbk h) d).trans h
def PG{b:Nat}{g:Nat}{F:Nat->Value}(h:BxM w b D sv)(i:w.rowIs g 9 n F):b≠g:=λe=>by
 obtain⟨c,d,_⟩:=i;unfold BxM at h;rw[e,d]at h;simp at h
def VecE(n:Nat)(l:Nat->ByteArray)(w:World)(r:Ending)(w':World):Prop:=Below w.heap.size w w'/\∃g,r=.returned (.slice (some (Ad g 0)) n n)/\w.heap.size<=g/\w'.rowIs g 9 n (λj=>.string (l j))
def FG{a:Option Addr}{cap:Nat}(w:World)(hn:D.n<=3000):
  Calls prog 53 #[.agg #[.int .i64 D.kind,.int .i64 D.start,.string D.lead,.slice a D.n cap]] w (VecE D.n (zerR D.kind) w):=by
 obtain⟨u,d⟩:=exq<|w.alloc (.cells #[.int .i64 D.kind,.int .i64 D.start,.string D.lead,.slice a D.n cap] 24);obtain⟨J,o⟩:=exq<|w.heap.size;have k:BxM u J D (.slice a D.n cap):=by rw[d,o];exact BxM.new w D _
 obtain⟨I,m⟩:=exq<|u.alloc (.cells (madeCells #[.string ⟨#[]⟩] D.n) 9);have H:u.heap.size=w.heap.size+1:=by rw[d];simp
 obtain⟨g,N⟩:=exq<|w.heap.size+1;have G:Fr (λ_=>False) w u:=by rw[d];exact Fr.alloc _ _
 have A:Fr (λ_=>False) u I:=by rw[m];exact Fr.alloc _ _
 have c:I.rowIs g 9 D.n (λ_=>.string ⟨#[]⟩):=by rw[m,N,<-H];exact World.rowIs_made u _ _ _
 have F:=qh (show w.heap.size<=g by omega);have E:=qh<|show Below w.heap.size w I from (G.trans A).below nlr (λ_ e=>e.elim);have h:=qh<|k.kept A (λe=>e);have i:=qh (c.congr (g:=λj=>.string (if j<0 then Af D.kind else ⟨#[]⟩)) (λj _=>by rw[ifn (Nat.not_lt_zero j)]))
 have R:=cellOf k 3 rfl;obtain⟨n,C⟩:=exq<|D.n;have O:=run_make_row' (P:=prog) 79 9 (.string ⟨#[]⟩) 16 underlying79 FX rfl .i64 .i64 n (by omega) (by omega);rw[<-C]at hn h i R m d ⊢;have X:=qh C;clear c G A k C H;have W:=R;rw[d,o]at W
 go_enter func53,ntmps53
 go_wp2_with fail
 rw[<-d,<-m,<-N,<-o];clear d m o N R W O
 go_loopw [4] (λS wr=>∃q:Nat,q<=n/\S=.int .i64 (q:Int)/\wr.rowIs g 9 n (λj=>.string (if j<q then Af D.kind else ⟨#[]⟩))/\Below w.heap.size w wr/\BxM wr J D (.slice a n cap)) (λS _=>n-(intOf S).toNat)
 case atStart=>exact⟨0,Nat.zero_le _,rfl,i.o,E.o,h.o⟩
 obtain⟨q,hq,rfl,c,hb,k⟩:=hrel;clear i E h;have i:=qh c;clear c;replace hb:=qh hb;have h:=qh k;clear k;by_cases Q:q<n
 ·have a1:(q:Int)<(n:Int):=by omega
  have U:(0:Int)<=(q:Int):=by omega
  have m0:=cellOf h.o 0 rfl
  go_wp2_with fail
  refine(DJ D.kind _).mono ?_;rintro rr w3⟨rfl,z⟩;have B:Fr (λ_=>False) wr w3:=Fr.of_below z;have l:=B.row i.o (λe=>e);have c0:=l.cell Q;have f0:=l.frozen q;replace l:=qh l;have K:=qh<|hb.o.trans (z.mono hb.o.size);have s:=qh<|h.o.kept B (λe=>e);clear z B m0;go_wp2;go_roundw
  case rel =>
   refine⟨q+1,by omega,by go_num,(l.o.set q _).congr (λj _=>?_),K.o.setCell (p:=(Ad g q)) F.o _,(blk_setCell_other _ _ _ _ (PG s.o l.o)).trans s.o⟩;by_cases e:j=q
   ·rw[ifp e,ifp (show j<q+1 by omega)]
   rw[ifn e];by_cases T:j<q
   ·rw[ifp T,ifp (show j<q+1 by omega)]
   rw[ifn T,ifn (show ¬j<q+1 by omega)]
  simp[intOf];omega
 have Z:q=n:=by omega
 have Y:¬((q:Int)<(n:Int)):=by omega
 have L:=qh (i.o.congr (g:=λj=>.string (zerR D.kind j)) (λj hj=>by rw[ifp (show j<q by omega)];rfl));go_wp2;go_ret;exact⟨hb.o,g,rfl,F.o,L.o⟩
def AddE(n lb:Nat)(z:WS)(w:World)(r:Ending)(w':World):Prop:=r=.returned (.int .i64 (z.2:Int))/\w'.rowIs lb 9 n (λj=>.string (z.1 j))/\Fr (λq=>q=lb) w w'
def FH{F:Nat}(w:World)(O:w.rowIs F 9 n (λj=>.string (l j)))(S:t<n)(hn:n<=3000)(R:smS (l t))(Q:smS a)(hb:smS b):
  Calls prog 104 #[.int .i64 k,.slice (some (Ad F 0)) n n,.int .i64 (t:Int),.string a,.string b] w (AddE n F (addR k l t a b) w):=by
 have I:=Pj k a b w Q hb;obtain⟨p,J⟩:=exq<|Al k a b;have A:smS p.1:=by rw[J];exact QM k a b
 have H:=λW=>Ij k (l t) p.1 W R A;obtain⟨s,P⟩:=exq<|Am k (l t) p.1;have B:addR k l t a b=if p.2≠0 then (l,p.2) else if s.2=0 then (updS l t s.1,0) else (l,s.2):=by unfold addR;rw[P,J]
 obtain⟨z,E⟩:=exq<|addR k l t a b;rw[<-E]at B ⊢;rw[<-J]at I;rw[<-P]at H;replace I:=qh I;replace H:=qh H;replace B:=qh B;replace O:=qh O;clear E J P A R Q hb;have a2:(t:Int)<(n:Int):=by omega
 have T:(0:Int)<=(t:Int):=by omega
 go_enter func104,ntmps104
 go_wp2_with fail
 refine I.o.mono ?_;rintro rr U⟨rfl,o⟩;have i:Fr (λq=>q=F) w U:=Fr.of_below o;have h:=(Fr.of_below (C:=λ_=>False) o).row O.o (λe=>e);have c0:=h.cell S;replace h:=qh h;replace i:=qh i;clear o;by_cases K:p.2=0
 ·have L:(p.2:Int)=0:=by omega
  have D:=B.o.trans<|ifn (by omega);have d:=qh D;clear D;clear K
  go_wp2_with fail
  refine(H.o U).mono ?_;rintro rr w2⟨rfl,u⟩;have m:Fr (λq=>q=F) w w2:=i.o.trans<|Fr.of_below u;have c:=(Fr.of_below (C:=λ_=>False) u).row h.o (λe=>e);have c1:=c.cell S;have f1:=c.frozen t;replace c:=qh c;replace m:=qh m;clear u c0;by_cases G:s.2=0
  ·have N:(s.2:Int)=0:=by omega
   have g:=qh<|d.o.trans (ifp G);clear G;go_wp2;go_ret;refine⟨by rw[g.o];rfl,?_,m.o.set (.inl rfl) _⟩;rw[g.o];refine(c.o.set t _).congr (λj _=>?_);show _=Value.string (updS l t s.1 j);unfold updS;by_cases e:j=t
   ·rw[ifp e,ifp e]
   rw[ifn e,ifn e]
  have N:¬((s.2:Int)=0):=by omega
  have Z:((s.2:Int)==0)=false:=by simp;omega
  have a1:decide ((s.2:Int)=0)=false:=by simp;omega
  have g:=qh<|d.o.trans (ifn G);clear G;go_wp2;go_ret;exact⟨by rw[g.o];rfl,by rw[g.o];exact c.o,m.o⟩
 have L:¬((p.2:Int)=0):=by omega
 have X:((p.2:Int)==0)=false:=by simp;omega
 have Y:decide ((p.2:Int)=0)=false:=by simp;omega
 have d:=qh<|B.o.trans (ifp K);clear K c0;go_wp2;go_ret;exact⟨by rw[d.o];rfl,by rw[d.o];exact h.o,i.o⟩
variable{d vb:Nat}{v:Nat->ByteArray}{g:World}
structure StI(w0 w:World)(mb vb lb:Nat)(D:MD)(sv:Value)(v l:Nat->ByteArray):Prop where
 bx:BxM w mb D sv
 rv:w.rowIs vb 9 D.n (λj=>.string (v j))
 rl:w.rowIs lb 9 D.n (λj=>.string (l j))
 be:Below w0.heap.size w0 w
 ll:w0.heap.size<=lb
 ml:mb≠lb
 vl:vb≠lb
def StI.new{i:World}{c:Nat}(h:StI i w d vb c D sv v l)(hf:Fr (λ_=>False) w g):StI i g d vb c D sv v l :=
 ⟨h.bx.kept hf (λe=>e),hf.row h.rv (λe=>e),hf.row h.rl (λe=>e),h.be.trans (hf.below h.be.size (λ_ e=>e.elim)),h.ll,h.ml,h.vl⟩
def StI.upd{m:World}{k:Nat}{i:Nat->ByteArray}(h:StI m w k vb d D sv v l)(hf:Fr (λq=>q=d) w g)(o:g.rowIs d 9 D.n (λj=>.string (i j))):StI m g k vb d D sv v i :=
 ⟨h.bx.kept hf h.ml,hf.row h.rv h.vl,o,h.be.trans (hf.below h.be.size (λc e=>by rw[e];exact h.ll)),h.ll,h.ml,h.vl⟩
def VerE(n:Nat)(z:WS)(w:World)(r:Ending)(w':World):Prop:=Below w.heap.size w w'/\((z.2=0/\∃g,r=.returned (.tuple #[.slice (some (Ad g 0)) n n,.int .i64 0])/\w.heap.size<=g/\w'.rowIs g 9 n (λj=>.string (z.1 j)))\/(z.2≠0/\r=.returned (.tuple #[.slice none 0 0,.int .i64 (z.2:Int)])))
def Zh{i o:Int}(w:World)(hV:VM D)(hD:StS none w sv D)(e8:w.rowIs vb 9 D.n (λj=>.string (v j)))(e9:∀j,smS (v j))(L:∀i k,smS (D.aw i k)):
  Calls prog 55 #[.agg #[.int .i64 D.kind,.int .i64 D.start,.string D.lead,sv],.slice (some (Ad vb 0)) D.n D.n,.int .i64 i,.int .i64 o,.bool false] w (VerE D.n (Ak D i o v D.n (zerR D.kind,0)) w):=by
 obtain⟨a,cp,b,f3,A,C,BB,O,rfl,ha,hc,hm,hb,b0⟩:=hD.open;unfold maxLen at hm;obtain⟨w1,R⟩:=exq<|w.alloc (.cells #[.int .i64 D.kind,.int .i64 D.start,.string D.lead,.slice a D.n cp] 24);obtain⟨U,b6⟩:=exq<|w.heap.size;have j8:w1.heap.size=w.heap.size+1:=by rw[R];simp
 have e5:Fr (λ_=>False) w w1:=by rw[R];exact Fr.alloc _ _
 have N:BxM w1 U D (.slice a D.n cp):=by rw[R,b6];exact BxM.new w D _
 have hz:=FG (D:=D) (a:=a) (cap:=cp) w1 hV.n2;have HZ:=qh hz;clear hz;have d2:=qh<|show Below w.heap.size w w1 from e5.below nlr (λ_ e=>e.elim);have g2:=qh<|e5.row e8 (λe=>e);have j2:=qh e8.lt;have f8:=qh N;obtain⟨kz,a9⟩:=exq<|Af D.kind;replace a9:=qh a9;replace hV:=qh hV;replace ha:=qh ha;replace hb:=qh hb;replace b0:=qh b0;clear hD;replace e9:=qh e9;have j0:=qh L;clear L;have j1:=qh (show U<w1.heap.size by omega);have g1:=qh (show w.heap.size<=w1.heap.size by omega);have m0:=cellOf N 0 rfl;have m1:=cellOf N 1 rfl;have m2:=cellOf N 2 rfl;have m3:=cellOf N 3 rfl;have j6:D.n<=3000:=hV.o.n2;clear e8 e5 N hc j8;have l0:=m0;have l1:=m1;have l2:=m2;have l3:=m3;rw[R,b6]at l0 l1 l2 l3
 go_enter func55,ntmps55
 go_wp2_with fail
 rw[<-R,<-b6];clear R b6 l0 l1 l2 l3 m0 m1 m2 m3;refine HZ.o.mono ?_;rintro rr w2⟨e4,lb,rfl,i2,i6⟩;have e6:Fr (λ_=>False) w1 w2:=Fr.of_below e4;have g:=qh (show StI w w2 U vb lb D (.slice a D.n cp) v (Ak D i o v 0 (zerR D.kind,0)).1 from
  ⟨f8.o.kept e6 (λe=>e),e6.row g2.o (λe=>e),i6,d2.o.trans (e4.mono d2.o.size),Nat.le_trans g1.o i2,by have:=j1.o;omega,by have:=j2.o;have:=g1.o;omega⟩)
 clear e4 e6 i2 i6 HZ d2 f8 g2
 go_wp2_with fail
 go_loopw [13] (λf4 wr=>∃q:Nat,q<=D.n/\f4=.int .i64 (q:Int)/\(Ak D i o v q (zerR D.kind,0)).2=0/\StI w wr U vb lb D (.slice a D.n cp) v (Ak D i o v q (zerR D.kind,0)).1) (λf4 _=>D.n-(intOf f4).toNat)
 case atStart=>exact⟨0,Nat.zero_le _,rfl,rfl,g.o⟩
 obtain⟨q,hq,rfl,P,hi⟩:=hrel;clear g;have g:=qh hi;clear hi;replace P:=qh P;have m0:=cellOf g.o.bx 0 rfl;have m3:=cellOf g.o.bx 3 rfl;by_cases b5:q<D.n
 ·have l8:(q:Int)<(D.n:Int):=by omega
  have l4:(0:Int)<=(q:Int):=by omega
  obtain rfl:=ha.o (by omega);have cv:=g.o.rv.cell b5;have j4:=(hb.o (by omega)).1;obtain⟨k1,k2,k3,k4,k5,k6,k7⟩:=b0.o q b5;unfold maxLen at k4;have k9:D.na q<=30000:=by have X:=Nat.le_trans (BA D (show q+1<=D.n by omega)) hV.o.arcs;have h2:Ac D (q+1)=Ac D q+D.na q:=rfl;omega
  obtain⟨aq,h0⟩:=exq<|A q;rw[<-h0]at k2 k5;replace k2:=qh k2;replace k5:=qh k5;replace k6:=qh k6;replace k7:=qh k7;clear h0 k1;obtain⟨Z,F⟩:=exq<|v q;rw[<-F]at cv;replace F:=qh F;obtain⟨s0,b7⟩:=exq<|Ak D i o v q (zerR D.kind,0);have b2:∀j,smS (s0.1 j):=by rw[b7];exact GC q (λj=>Dk D.kind)
  have b1:Ak D i o v (q+1) (zerR D.kind,0)=rowR D i o v q s0:=by rw[b7];rfl
  rw[<-b7]at g P;have g3:=qh b1;clear b1 b7;replace b2:=qh b2;have a8:∀W,Fr (λ_=>False) wr W->(λl:World=>l.cell? (Ad vb q)=some (.string Z)/\l.cell? (Ad U 0)=some (.int .i64 D.kind)) W:=λW hf=>⟨hf.cell cv (λe=>e),hf.cell m0 (λe=>e)⟩;have G:=qh a8;clear a8;obtain⟨wd,f1⟩:=exq<|wr.drew;have h9:Fr (λ_=>False) wr wd:=by rw[f1];exact Fr.of_below<|(Below.refl wr.heap.size wr).drew
  have d5:=qh h9;clear h9;have f2:=DJ D.kind wd;rw[<-a9.o]at f2;have g5:=qh f2;clear f2
  go_wp2_with fail
  have c:=G.o wd d5.o;refine Au (λl:World=>l.cell? (Ad vb q)=some (.string Z)/\l.cell? (Ad U 0)=some (.int .i64 D.kind)) 7 (by kernel_rfl) ?_;rw[<-f1];clear f1 cv m0 m3;refine Aa.tm 0 c ?_;refine Aa.tm 1 c ?_;refine Aa.tm 2 c ?_;refine Aa.tm 3 c ?_;refine Aa.tm 4 c ?_;refine Aa.tm 5 c ?_
  try simp only[Act.put,tryL]
  refine Aa.on 6 λK hK=>?_;go_simp;refine g5.o.mono ?_;rintro rr w3⟨rfl,h3⟩;have d4:=qh<|d5.o.trans (Fr.of_below h3);have g7:=G.o w3 d4.o;clear h3 c g5;refine hK.out _ _ (.inr g7) ?_;clear hK K
  try simp only[Act.put,tryL]
  refine Aa.on 7 λK hK=>?_;go_simp;refine hK.out _ _ (.inl rfl) (Aa.dn ?_);clear hK K g7;have d6:=qh<|g.o.new d4.o;clear g d5 G d4;cases hO:(Z.toList==kz.toList)
  ·have b3:v q≠Af D.kind:=λe=>by rw[<-F.o,<-a9.o]at e;rw[e]at hO;simp at hO
   have a7:=qh<|g3.o.trans (ifn b3);clear b3
   go_wp2_with fail
   go_loopw [14] (λf5 wr=>∃d:Nat,d<=D.na q/\f5=.int .i64 (d:Int)/\(AM D i o v q d s0).2=0/\StI w wr U vb lb D (.slice (some (Ad b f3)) D.n cp) v (AM D i o v q d s0).1) (λf5 _=>D.na q-(intOf f5).toNat)
   case atStart=>exact⟨0,Nat.zero_le _,rfl,P.o,d6.o⟩
   obtain⟨d,hd,rfl,Q,hi⟩:=hrel;clear d6;have g:=qh hi;clear hi;replace Q:=qh Q;have m0:=cellOf g.o.bx 0 rfl;have m3:=cellOf g.o.bx 3 rfl;have c1:=(g.o.be.cell (p:=(Ad b (f3+q*2+1))) j4).trans k2.o;by_cases h6:d<D.na q
   ·have l7:(d:Int)<(D.na q:Int):=by omega
    have k0:(0:Int)<=(d:Int):=by omega
    have b4:=(k6.o (by omega)).1;obtain⟨t0,t1,t2,t3⟩:=k7.o d h6;obtain rfl:=k5.o (by omega);have c2:=(g.o.be.cell (p:=(Ad (BB q) (O q+d*4))) b4).trans t0;have c3:=(g.o.be.cell (p:=(Ad (BB q) (O q+d*4+1))) b4).trans t1;have c4:=(g.o.be.cell (p:=(Ad (BB q) (O q+d*4+2))) b4).trans t2;have c5:=(g.o.be.cell (p:=(Ad (BB q) (O q+d*4+3))) b4).trans t3;clear t0 t1 t2 t3;have e3:=hV.o.arc q d b5 h6;obtain⟨Y,b9⟩:∃Y:Nat,D.ato q d=(Y:Int):=⟨(D.ato q d).toNat,by have:=e3.t0;omega⟩;have j7:Y<D.n:=by have:=e3.t1;omega
    obtain⟨s1,b8⟩:=exq<|AM D i o v q d s0;have d1:∀j,smS (s1.1 j):=by rw[b8];exact GP d b2.o
    rw[<-b8]at g Q;have i3:AM D i o v q (d+1) s0=if D.ain q d=i/\D.aout q d=o then addR D.kind s1.1 Y Z (D.aw q d) else s1:=by
     show arcR D i o v q d (AM D i o v q d s0)=_;unfold arcR;rw[<-b8,ifn (by rw[Q.o];simp),b9,F.o];rfl
    have B:=qh i3;clear i3 b8;rw[b9]at c5;replace b9:=qh b9;obtain⟨H,g9⟩:=exq<|D.ain q d;obtain⟨J,d0⟩:=exq<|D.aout q d;obtain⟨aw,L⟩:=exq<|D.aw q d;have i8:smS aw:=by rw[L];exact j0.o q d
    have i7:smS Z:=by rw[F.o];exact e9.o q
    rw[<-g9]at c2 B;rw[<-d0]at c3 B;rw[<-L]at c4 B;clear g9 d0 L e3;obtain⟨w4,S⟩:=exq<|wr.alloc (.cells #[.int .i64 H,.int .i64 J,.string aw,.int .i64 (Y:Int)] 59);obtain⟨xb,c8⟩:=exq<|wr.heap.size;have h7:Fr (λ_=>False) wr w4:=by rw[S];exact Fr.alloc _ _
    have c7:w4.heap[xb]?=some (.cells #[.int .i64 H,.int .i64 J,.string aw,.int .i64 (Y:Int)] 59 (0,0)):=by rw[S,c8];exact han wr _
    have E:=qh<|g.o.new h7;have x0:=cellOf c7 0 rfl;have x1:=cellOf c7 1 rfl;have d7:=qh c7;have e0:=x0;have e1:=x1;rw[S,c8]at e0 e1;clear h7 c7;by_cases X:H=i;by_cases h2:J=o
    ·have g6:(H==i)=true:=by simp[X]
     have j3:(J==o)=true:=by simp[h2]
     have u:=qh<|B.o.trans (ifp ⟨X,h2⟩);obtain⟨z,hz⟩:=exq<|addR D.kind s1.1 Y Z aw;have d9:=λW (h:Fr (λ_=>False) w4 W)=>FH (k:=D.kind) (t:=Y) (a:=Z) (b:=aw) W (h.row E.o.rl (λe=>e)) j7 j6 (d1 Y) i7 i8;rw[<-hz]at d9 u;have f7:=qh d9;clear d9 hz;have a8:∀W,Fr (λ_=>False) w4 W->(λl:World=>l.cell? (Ad U 0)=some (.int .i64 D.kind)/\l.cell? (Ad xb 3)=some (.int .i64 (Y:Int))/\l.cell? (Ad vb q)=some (.string Z)/\l.cell? (Ad xb 2)=some (.string aw)) W:=λW hf =>
      ⟨hf.cell (cellOf E.o.bx 0 rfl) (λe=>e),hf.cell (cellOf d7.o 3 rfl) (λe=>e),hf.cell (by rw[F.o];exact E.o.rv.cell b5) (λe=>e),hf.cell (cellOf d7.o 2 rfl) (λe=>e)⟩
     have G:=qh a8;clear a8 i8 i7 d1;obtain⟨w5,f0⟩:=exq<|w4.drew;have h8:Fr (λ_=>False) w4 w5:=by rw[f0];exact Fr.of_below<|(Below.refl w4.heap.size w4).drew
     have a5:=qh h8;clear h8;have c9:∀w6,Fr (λq=>q=lb) w5 w6->w6.rowIs lb 9 D.n (λj=>.string (z.1 j))->StI w w6 U vb lb D (.slice (some (Ad b f3)) D.n cp) v z.1:=λw6 h r=>(E.o.new a5.o).upd h r;have g4:=qh c9;clear c9;have h4:∀w6,Fr (λq=>q=lb) w5 w6->(λl:World=>l.cell? (Ad U 0)=some (.int .i64 D.kind)/\l.cell? (Ad xb 3)=some (.int .i64 (Y:Int))/\l.cell? (Ad vb q)=some (.string Z)/\l.cell? (Ad xb 2)=some (.string aw)) w6:=λw6 h=>by
      obtain⟨a1,a2,a3,a4⟩:=G.o w5 a5.o;have i9:xb≠lb:=λe=>by
       obtain⟨cc,hh,_⟩:=E.o.rl;have:=d7.o;rw[e,hh]at this;simp at this
      exact⟨h.cell a1 E.o.ml,h.cell a2 i9,h.cell a3 E.o.vl,h.cell a4 i9⟩
     have f9:=qh h4;clear h4;clear B;subst X h2
     go_wp2_with fail
     rw[<-S,<-c8];have c:=G.o w5 a5.o;refine Au (λl:World=>l.cell? (Ad U 0)=some (.int .i64 D.kind)/\l.cell? (Ad xb 3)=some (.int .i64 (Y:Int))/\l.cell? (Ad vb q)=some (.string Z)/\l.cell? (Ad xb 2)=some (.string aw)) 12 (by kernel_rfl) ?_;rw[<-f0];clear S c8 f0 c1 c2 c3 c4 c5 m0 m3 x0 x1 e0 e1;refine Aa.tm 0 c ?_;refine Aa.tm 1 c ?_;refine Aa.tm 2 c ?_;refine Aa.tm 3 c ?_;refine Aa.tm 4 c ?_;refine Aa.tm 5 c ?_;refine Aa.tm 6 c ?_;refine Aa.tm 7 c ?_;refine Aa.tm 8 c ?_;refine Aa.tm 9 c ?_;refine Aa.tm 10 c ?_
     try simp only[Act.put,tryL]
     refine Aa.on 11 λK hK=>?_;go_simp;refine(f7.o w5 a5.o).mono ?_;rintro rr w6⟨rfl,i5,e7⟩;have g0:=qh<|g4.o w6 e7 i5;have g8:=f9.o w6 e7;clear i5 e7 c f7 g4 f9 G a5;refine hK.out _ _ (.inr g8) ?_;clear hK K
     try simp only[Act.put,tryL]
     refine Aa.on 12 λK hK=>?_;go_simp;refine hK.out _ _ (.inl rfl) (Aa.dn ?_);clear hK K g8;by_cases T:z.2=0
     ·have j9:(z.2:Int)=0:=by omega
      have d8:=qh T;clear T;go_wp2;go_roundw
      case rel=>exact⟨d+1,by omega,by go_num,by rw[u.o];exact d8.o,by rw[u.o];exact g0.o⟩
      simp[intOf];omega
     have j9:¬((z.2:Int)=0):=by omega
     have l9:((z.2:Int)==0)=false:=by simp;omega
     have m4:decide ((z.2:Int)=0)=false:=by simp;omega
     have I:Ak D H J v D.n (zerR D.kind,0)=z:=by
      have e1:AM D H J v q (D.na q) s0=z:=by
       have X:=GQ (D:=D) (i:=H) (o:=J) (v:=v) (q:=q) (s:=s0) (m:=d+1) (by rw[u.o];exact T) (D.na q-(d+1));rw[show d+1+(D.na q-(d+1))=D.na q by omega,u.o]at X;exact X
      have e2:Ak D H J v (q+1) (zerR D.kind,0)=z:=a7.o.trans e1;have h2:=GB (D:=D) (i:=H) (o:=J) (v:=v) (s:=(zerR D.kind,0)) (m:=q+1) (by rw[e2];exact T) (D.n-(q+1));rw[show q+1+(D.n-(q+1))=D.n by omega,e2]at h2;exact h2
     replace I:=qh I;have d8:=qh T;clear T;go_wp2;go_ret2;exact⟨g0.o.be,.inr ⟨by rw[I.o];exact d8.o,by rw[I.o];rfl⟩⟩
    have g6:(H==i)=true:=by simp[X]
    have j3:(J==o)=false:=by simp[h2]
    have l6:decide (J=o)=false:=by simp[h2]
    have u:=qh<|B.o.trans (ifn (λe=>h2 e.2));clear B;subst X
    rotate_left
    have g6:(H==i)=false:=by simp[X]
    have l5:decide (H=i)=false:=by simp[X]
    have u:=qh<|B.o.trans (ifn (λe=>X e.1));clear B
    all_goals
     go_wp2_with fail
     rw[<-S];go_roundw
     case rel=>exact⟨d+1,by omega,by go_num,by rw[u.o];exact Q.o,by rw[u.o];exact E.o⟩
     simp[intOf];omega
   have h5:d=D.na q:=by omega
   have j5:¬((d:Int)<(D.na q:Int)):=by omega
   have he:=Q.o;have hi:=g.o;rw[h5,<-a7.o]at he hi;have d3:=qh he;have a6:=qh hi;clear he hi h5;go_wp2;go_roundw
   case rel=>exact⟨q+1,by omega,by go_num,d3.o,a6.o⟩
   simp[intOf];omega
  have b3:v q=Af D.kind:=by rw[<-F.o,<-a9.o];exact toList_eq hO
  have b1:Ak D i o v (q+1) (zerR D.kind,0)=s0:=g3.o.trans<|ifp b3;have a7:=qh b1;clear b3 b1;go_wp2;go_roundw
  case rel=>exact⟨q+1,by omega,by go_num,by rw[a7.o];exact P.o,by rw[a7.o];exact d6.o⟩
  simp[intOf];omega
 have i4:q=D.n:=by omega
 have j5:¬((q:Int)<(D.n:Int)):=by omega
 have he:=P.o;have hi:=g.o;rw[i4]at he hi;have d3:=qh he;have a6:=qh hi;clear he hi i4;go_wp2;go_ret2;exact⟨a6.o.be,.inl ⟨d3.o,lb,rfl,a6.o.ll,a6.o.rl⟩⟩
end
end Go.Proofs.YteappjogmnogcaaGreatDoor
