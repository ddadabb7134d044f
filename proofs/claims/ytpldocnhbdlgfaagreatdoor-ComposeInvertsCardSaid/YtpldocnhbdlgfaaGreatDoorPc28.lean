/- Parts. -/
import Derived.Test.YtpldocnhbdlgfaaGreatDoorPc26
namespace Go.Proofs.YtpldocnhbdlgfaaGreatDoor
set_option maxRecDepth 100000
set_option linter.all false
set_option maxHeartbeats 16000000
open Go Tryz
section
open Go.RowKit Go.Deep
variable{D:MD}{l:Nat->ByteArray}{n t:Nat}{k:Int}{a b:ByteArray}{w:World}{sv:Value}
def addR(k:Int)(l:Nat->ByteArray)(t:Nat)(a b:ByteArray):WS :=
 if (Ah k a b).2≠0 then (l,(Ah k a b).2) else if (Ap k (l t) (Ah k a b).1).2=0 then (updS l t (Ap k (l t) (Ah k a b).1).1,0) else (l,(Ap k (l t) (Ah k a b).1).2)
def arcR(D:MD)(i o:Int)(v:Nat->ByteArray)(q k:Nat)(s:WS):WS:=if s.2≠0 then s else if D.ain q k=i/\D.aout q k=o then addR D.kind s.1 (D.ato q k).toNat (v q) (D.aw q k) else s
def Bf(D:MD)(i o:Int)(v:Nat->ByteArray)(q:Nat):Nat->WS->WS
 |0,s=>s
 |k+1,s=>arcR D i o v q k (Bf D i o v q k s)
def rowR(D:MD)(i o:Int)(v:Nat->ByteArray)(q:Nat)(s:WS):WS:=if v q=Ak D.kind then s else Bf D i o v q (D.na q) s
def Av(D:MD)(i o:Int)(v:Nat->ByteArray):Nat->WS->WS
 |0,s=>s
 |q+1,s=>rowR D i o v q (Av D i o v q s)
def zerR(k:Int):Nat->ByteArray:=λ_=>Ak k
def sumR(k:Int)(a b:Nat->ByteArray):Nat->WS
 |0=>(λ_=>⟨#[]⟩,0)
 |i+1=>if (sumR k a b i).2≠0 then sumR k a b i else if (Ap k (a i) (b i)).2≠0 then ((sumR k a b i).1,(Ap k (a i) (b i)).2) else (updS (sumR k a b i).1 i (Ap k (a i) (b i)).1,0)
def finR(D:MD)(v:Nat->ByteArray):Nat->WS
 |0=>(zerR D.kind,0)
 |q+1=>if (finR D v q).2≠0 then finR D v q else if D.fin q=⟨#[]⟩ then finR D v q else addR D.kind (finR D v q).1 0 (v q) (D.fin q)
def El(k:Int):smS (Ak k):=by have:=Qd k;unfold smS;omega
def Il(h:∀j,smS (l j)){s:ByteArray}(c:smS s)(j:Nat):smS (updS l t s j):=by unfold updS;split;exact c;exact h j
def Ix(h:∀j,smS (l j))(j:Nat):smS ((addR k l t a b).1 j):=by
 unfold addR
 split
 ·exact h j
 split
 ·exact Il h (JK k _ _) j
 exact h j
theorem IA{D:MD}{i o:Int}{v:Nat->ByteArray}{q:Nat}:∀(k:Nat) {s:WS},(∀j,smS (s.1 j))->∀j,smS ((Bf D i o v q k s).1 j)
 |0,_,h=>h
 |k+1,s,h=>by
  have ih:=IA (D:=D) (i:=i) (o:=o) (v:=v) (q:=q) k h;intro j;unfold Bf arcR
  split
  ·exact ih j
  split
  ·exact Ix ih j
  exact ih j
theorem Ku{D:MD}{i o:Int}{v:Nat->ByteArray}:∀(q:Nat) {s:WS},(∀j,smS (s.1 j))->∀j,smS ((Av D i o v q s).1 j)
 |0,_,h=>h
 |q+1,s,h=>by
  have ih:=Ku (D:=D) (i:=i) (o:=o) (v:=v) q h;intro j;unfold Av rowR
  split
  ·exact ih j
  exact IA _ ih j
theorem OV{k:Int}{a b:Nat->ByteArray}:∀(n:Nat) (j:Nat),smS ((sumR k a b n).1 j)
 |0,j=>by show smS ⟨#[]⟩;unfold smS;decide
 |n+1,j=>by
  have ih:=OV (k:=k) (a:=a) (b:=b) n;unfold sumR
  split
  ·exact ih j
  split
  ·exact ih j
  exact Il ih (JK k _ _) j
theorem Mn{D:MD}{v:Nat->ByteArray}:∀(n:Nat) (j:Nat),smS ((finR D v n).1 j)
 |0,j=>El _
 |n+1,j=>by
  have ih:=Mn (D:=D) (v:=v) n;unfold finR
  split
  ·exact ih j
  split
  ·exact ih j
  exact Ix ih j
theorem Ln{D:MD}{i o:Int}{v:Nat->ByteArray}{q:Nat}{s:WS}(h:s.2≠0):∀k,Bf D i o v q k s=s
 |0=>rfl
 |k+1=>by unfold Bf arcR;rw[Ln h k,ifp h]
theorem Wg{i o:Int}{v:Nat->ByteArray}{q:Nat}{s:WS}(h:s.2≠0):rowR D i o v q s=s:=by unfold rowR;split;rfl;exact Ln h _
theorem Ks{D:MD}{i o:Int}{v:Nat->ByteArray}{s:WS}{m:Nat}(h:(Av D i o v m s).2≠0):∀d,Av D i o v (m+d) s=Av D i o v m s
 |0=>rfl
 |d+1=>by show rowR D i o v (m+d) (Av D i o v (m+d) s)=_;rw[Ks h d,Wg h]
theorem Lo{D:MD}{i o:Int}{v:Nat->ByteArray}{q:Nat}{s:WS}{m:Nat}(h:(Bf D i o v q m s).2≠0):∀d,Bf D i o v q (m+d) s=Bf D i o v q m s
 |0=>rfl
 |d+1=>by show arcR D i o v q (m+d) (Bf D i o v q (m+d) s)=_;unfold arcR;rw[Lo h d,ifp h]
theorem Ky{k:Int}{a b:Nat->ByteArray}{m:Nat}(h:(sumR k a b m).2≠0):∀d,sumR k a b (m+d)=sumR k a b m
 |0=>rfl
 |d+1=>by show (if (sumR k a b (m+d)).2≠0 then sumR k a b (m+d) else _)=_;rw[Ky h d,ifp h]
theorem Je{D:MD}{v:Nat->ByteArray}{m:Nat}(h:(finR D v m).2≠0):∀d,finR D v (m+d)=finR D v m
 |0=>rfl
 |d+1=>by show (if (finR D v (m+d)).2≠0 then finR D v (m+d) else _)=_;rw[Je h d,ifp h]
def BxM(w:World)(b:Nat)(D:MD)(sv:Value):Prop:=w.heap[b]?=some (.cells #[.int .i64 D.kind,.int .i64 D.start,.string D.lead,sv] 25 (0,0))
def BxM.new(w:World)(D:MD)(sv:Value):BxM (w.alloc (.cells #[.int .i64 D.kind,.int .i64 D.start,.string D.lead,sv] 25)) w.heap.size D sv:=han w _
def BxM.kept{w':World}{b:Nat}{C:Nat->Prop}(h:BxM w b D sv)(hf:Fr C w w')(c:¬C b):BxM w' b D sv:=(hf.block b (lbk h) c).trans h
def Oe{b:Nat}{g:Nat}{F:Nat->Value}(h:BxM w b D sv)(i:w.rowIs g 9 n F):b≠g:=λe=>by
 obtain⟨c,d,_⟩:=i;unfold BxM at h;rw[e,d]at h;simp at h
def VecE(n:Nat)(l:Nat->ByteArray)(w:World)(r:Ending)(w':World):Prop:=Below w.heap.size w w'/\∃g,r=.returned (.slice (some (Ad g 0)) n n)/\w.heap.size<=g/\w'.rowIs g 9 n (λj=>.string (l j))
def Iv{a:Option Addr}{cap:Nat}(w:World)(hn:D.n<=3000):
  Calls prog 63 #[.agg #[.int .i64 D.kind,.int .i64 D.start,.string D.lead,.slice a D.n cap]] w (VecE D.n (zerR D.kind) w):=by
 obtain⟨u,d⟩:=exq<|w.alloc (.cells #[.int .i64 D.kind,.int .i64 D.start,.string D.lead,.slice a D.n cap] 25);obtain⟨J,o⟩:=exq<|w.heap.size;have k:BxM u J D (.slice a D.n cap):=by rw[d,o];exact BxM.new w D _
 obtain⟨I,m⟩:=exq<|u.alloc (.cells (madeCells #[.string ⟨#[]⟩] D.n) 9);have H:u.heap.size=w.heap.size+1:=by rw[d];simp
 obtain⟨g,N⟩:=exq<|w.heap.size+1;have G:Fr (λ_=>False) w u:=by rw[d];exact Fr.alloc _ _
 have A:Fr (λ_=>False) u I:=by rw[m];exact Fr.alloc _ _
 have c:I.rowIs g 9 D.n (λ_=>.string ⟨#[]⟩):=by rw[m,N,<-H];exact World.rowIs_made u _ _ _
 have F:=qh (show w.heap.size<=g by omega);have E:=qh<|show Below w.heap.size w I from (G.trans A).below nlr (λ_ e=>e.elim);have h:=qh<|k.kept A (λe=>e);have i:=qh (c.congr (g:=λj=>.string (if j<0 then Ak D.kind else ⟨#[]⟩)) (λj _=>by rw[ifn (Nat.not_lt_zero j)]))
 have R:=cellOf k 3 rfl;obtain⟨n,C⟩:=exq<|D.n;have O:=run_make_row' (P:=prog) 100 9 (.string ⟨#[]⟩) 16 underlying100 Jj rfl .i64 .i64 n (by omega) (by omega);rw[<-C]at hn h i R m d ⊢;have X:=qh C;clear c G A k C H;have W:=R;rw[d,o]at W
 go_enter func63,ntmps63
 go_wp2_with fail
 rw[<-d,<-m,<-N,<-o];clear d m o N R W O
 go_loopw [4] (λS wr=>∃q:Nat,q<=n/\S=.int .i64 (q:Int)/\wr.rowIs g 9 n (λj=>.string (if j<q then Ak D.kind else ⟨#[]⟩))/\Below w.heap.size w wr/\BxM wr J D (.slice a n cap)) (λS _=>n-(intOf S).toNat)
 case atStart=>exact⟨0,Nat.zero_le _,rfl,i.o,E.o,h.o⟩
 obtain⟨q,hq,rfl,c,hb,k⟩:=hrel;clear i E h;have i:=qh c;clear c;replace hb:=qh hb;have h:=qh k;clear k;by_cases Q:q<n
 ·have a1:(q:Int)<(n:Int):=by omega
  have U:(0:Int)<=(q:Int):=by omega
  have m0:=cellOf h.o 0 rfl
  go_wp2_with fail
  refine(Eb D.kind _).mono ?_;rintro rr w3⟨rfl,z⟩;have B:Fr (λ_=>False) wr w3:=Fr.of_below z;have l:=B.row i.o (λe=>e);have c0:=l.cell Q;have f0:=l.frozen q;replace l:=qh l;have K:=qh<|hb.o.trans (z.mono hb.o.size);have s:=qh<|h.o.kept B (λe=>e);clear z B m0;go_wp2;go_roundw
  case rel =>
   refine⟨q+1,by omega,by go_num,(l.o.set q _).congr (λj _=>?_),K.o.setCell (p:=(Ad g q)) F.o _,(blk_setCell_other _ _ _ _ (Oe s.o l.o)).trans s.o⟩;by_cases e:j=q
   ·rw[ifp e,ifp (show j<q+1 by omega)]
   rw[ifn e];by_cases T:j<q
   ·rw[ifp T,ifp (show j<q+1 by omega)]
   rw[ifn T,ifn (show ¬j<q+1 by omega)]
  simp[intOf];omega
 have Z:q=n:=by omega
 have Y:¬((q:Int)<(n:Int)):=by omega
 have L:=qh (i.o.congr (g:=λj=>.string (zerR D.kind j)) (λj hj=>by rw[ifp (show j<q by omega)];rfl));go_wp2;go_ret;exact⟨hb.o,g,rfl,F.o,L.o⟩
def AddE(n lb:Nat)(z:WS)(w:World)(r:Ending)(w':World):Prop:=r=.returned (.int .i64 (z.2:Int))/\w'.rowIs lb 9 n (λj=>.string (z.1 j))/\Fr (λq=>q=lb) w w'
def Iw{F:Nat}(w:World)(O:w.rowIs F 9 n (λj=>.string (l j)))(S:t<n)(hn:n<=3000)(R:smS (l t))(Q:smS a)(hb:smS b):
  Calls prog 117 #[.int .i64 k,.slice (some (Ad F 0)) n n,.int .i64 (t:Int),.string a,.string b] w (AddE n F (addR k l t a b) w):=by
 have I:=NT k a b w Q hb;obtain⟨p,J⟩:=exq<|Ah k a b;have A:smS p.1:=by rw[J];exact If k a b
 have H:=λW=>Hp k (l t) p.1 W R A;obtain⟨s,P⟩:=exq<|Ap k (l t) p.1;have B:addR k l t a b=if p.2≠0 then (l,p.2) else if s.2=0 then (updS l t s.1,0) else (l,s.2):=by unfold addR;rw[P,J]
 obtain⟨z,E⟩:=exq<|addR k l t a b;rw[<-E]at B ⊢;rw[<-J]at I;rw[<-P]at H;replace I:=qh I;replace H:=qh H;replace B:=qh B;replace O:=qh O;clear E J P A R Q hb;have a2:(t:Int)<(n:Int):=by omega
 have T:(0:Int)<=(t:Int):=by omega
 go_enter func117,ntmps117
 go_wp2_with fail
 refine I.o.mono ?_;rintro rr U⟨rfl,o⟩;have i:Fr (λq=>q=F) w U:=Fr.of_below o;have h:=(Fr.of_below (C:=λ_=>False) o).row O.o (λe=>e);have c0:=h.cell S;replace h:=qh h;replace i:=qh i;clear o;by_cases K:p.2=0
 ·have L:(p.2:Int)=0:=by omega
  have D:=B.o.trans<|ifn (by omega);have d:=qh D;clear D;clear K
  go_wp2_with fail
  refine(H.o U).mono ?_;rintro rr w2⟨rfl,u⟩;have m:Fr (λq=>q=F) w w2:=i.o.trans<|Fr.of_below u;have c:=(Fr.of_below (C:=λ_=>False) u).row h.o (λe=>e);have c1:=c.cell S;have f1:=c.frozen t;replace c:=qh c;replace m:=qh m;clear u c0;by_cases G:s.2=0
  ·have N:(s.2:Int)=0:=by omega
   have g:=qh<|d.o.trans (ifp G);clear G;go_wp2;go_ret;refine⟨by rw[g.o];rfl,?_,m.o.set (.inl rfl) _⟩;rw[g.o];refine(c.o.set t _).congr (λj _=>?_);show _=Value.string (updS l t s.1 j);unfold updS;by_cases e:j=t
   ·rw[ifp e,ifp e]
   rw[ifn e,ifn e]
  have N:¬((s.2:Int)=0):=by omega
  have Z:((s.2:Int)==0)=false:=by simp;omega
  have a1:decide ((s.2:Int)=0)=false:=by simp;omega
  have g:=qh<|d.o.trans (ifn G);clear G;go_wp2;go_ret;exact⟨by rw[g.o];rfl,by rw[g.o];exact c.o,m.o⟩
 have L:¬((p.2:Int)=0):=by omega
 have X:((p.2:Int)==0)=false:=by simp;omega
 have Y:decide ((p.2:Int)=0)=false:=by simp;omega
 have d:=qh<|B.o.trans (ifp K);clear K c0;go_wp2;go_ret;exact⟨by rw[d.o];rfl,by rw[d.o];exact h.o,i.o⟩
variable{d vb:Nat}{v:Nat->ByteArray}{w':World}
structure StI(w0 w:World)(mb vb lb:Nat)(D:MD)(sv:Value)(v l:Nat->ByteArray):Prop where
 bx:BxM w mb D sv
 rv:w.rowIs vb 9 D.n (λj=>.string (v j))
 rl:w.rowIs lb 9 D.n (λj=>.string (l j))
 be:Below w0.heap.size w0 w
 ll:w0.heap.size<=lb
 ml:mb≠lb
 vl:vb≠lb
def StI.new{g:World}{c:Nat}(h:StI g w d vb c D sv v l)(hf:Fr (λ_=>False) w w'):StI g w' d vb c D sv v l :=
 ⟨h.bx.kept hf (λe=>e),hf.row h.rv (λe=>e),hf.row h.rl (λe=>e),h.be.trans (hf.below h.be.size (λ_ e=>e.elim)),h.ll,h.ml,h.vl⟩
def StI.upd{k:World}{i:Nat}{g:Nat->ByteArray}(h:StI k w i vb d D sv v l)(hf:Fr (λq=>q=d) w w')(m:w'.rowIs d 9 D.n (λj=>.string (g j))):StI k w' i vb d D sv v g :=
 ⟨h.bx.kept hf h.ml,hf.row h.rv h.vl,m,h.be.trans (hf.below h.be.size (λc e=>by rw[e];exact h.ll)),h.ll,h.ml,h.vl⟩
def VerE(n:Nat)(z:WS)(w:World)(r:Ending)(w':World):Prop:=Below w.heap.size w w'/\((z.2=0/\∃g,r=.returned (.tuple #[.slice (some (Ad g 0)) n n,.int .i64 0])/\w.heap.size<=g/\w'.rowIs g 9 n (λj=>.string (z.1 j)))\/(z.2≠0/\r=.returned (.tuple #[.slice none 0 0,.int .i64 (z.2:Int)])))
def WW{i o:Int}(w:World)(hV:VM D)(hD:StS none w sv D)(f1:w.rowIs vb 9 D.n (λj=>.string (v j)))(f2:∀j,smS (v j))(L:∀i k,smS (D.aw i k)):
  Calls prog 65 #[.agg #[.int .i64 D.kind,.int .i64 D.start,.string D.lead,sv],.slice (some (Ad vb 0)) D.n D.n,.int .i64 i,.int .i64 o,.bool false] w (VerE D.n (Av D i o v D.n (zerR D.kind,0)) w):=by
 obtain⟨a,cp,b,f7,A,C,BB,O,rfl,ha,hc,hm,hb,b0⟩:=hD.open;unfold maxLen at hm;obtain⟨w1,R⟩:=exq<|w.alloc (.cells #[.int .i64 D.kind,.int .i64 D.start,.string D.lead,.slice a D.n cp] 25);obtain⟨U,b6⟩:=exq<|w.heap.size;have k9:w1.heap.size=w.heap.size+1:=by rw[R];simp
 have e8:Fr (λ_=>False) w w1:=by rw[R];exact Fr.alloc _ _
 have N:BxM w1 U D (.slice a D.n cp):=by rw[R,b6];exact BxM.new w D _
 have hz:=Iv (D:=D) (a:=a) (cap:=cp) w1 hV.n2;have HZ:=qh hz;clear hz;have d5:=qh<|show Below w.heap.size w w1 from e8.below nlr (λ_ e=>e.elim);have g5:=qh<|e8.row f1 (λe=>e);have j5:=qh f1.lt;have g1:=qh N;obtain⟨kz,a9⟩:=exq<|Ak D.kind;replace a9:=qh a9;replace hV:=qh hV;replace ha:=qh ha;replace hb:=qh hb;replace b0:=qh b0;clear hD;replace f2:=qh f2;have j3:=qh L;clear L;have j4:=qh (show U<w1.heap.size by omega);have g4:=qh (show w.heap.size<=w1.heap.size by omega);have m0:=cellOf N 0 rfl;have m1:=cellOf N 1 rfl;have m2:=cellOf N 2 rfl;have m3:=cellOf N 3 rfl;have j9:D.n<=3000:=hV.o.n2;clear f1 e8 N hc k9;have l0:=m0;have l1:=m1;have l2:=m2;have l3:=m3;rw[R,b6]at l0 l1 l2 l3
 go_enter func65,ntmps65
 go_wp2_with fail
 rw[<-R,<-b6];clear R b6 l0 l1 l2 l3 m0 m1 m2 m3;refine HZ.o.mono ?_;rintro rr w2⟨e7,lb,rfl,i5,i9⟩;have e9:Fr (λ_=>False) w1 w2:=Fr.of_below e7;have g:=qh (show StI w w2 U vb lb D (.slice a D.n cp) v (Av D i o v 0 (zerR D.kind,0)).1 from
  ⟨g1.o.kept e9 (λe=>e),e9.row g5.o (λe=>e),i9,d5.o.trans (e7.mono d5.o.size),Nat.le_trans g4.o i5,by have:=j4.o;omega,by have:=j5.o;have:=g4.o;omega⟩)
 clear e7 e9 i5 i9 HZ d5 g1 g5
 go_wp2_with fail
 go_loopw [13] (λf8 wr=>∃q:Nat,q<=D.n/\f8=.int .i64 (q:Int)/\(Av D i o v q (zerR D.kind,0)).2=0/\StI w wr U vb lb D (.slice a D.n cp) v (Av D i o v q (zerR D.kind,0)).1) (λf8 _=>D.n-(intOf f8).toNat)
 case atStart=>exact⟨0,Nat.zero_le _,rfl,rfl,g.o⟩
 obtain⟨q,hq,rfl,P,hi⟩:=hrel;clear g;have g:=qh hi;clear hi;replace P:=qh P;have m0:=cellOf g.o.bx 0 rfl;have m3:=cellOf g.o.bx 3 rfl;by_cases b5:q<D.n
 ·have m5:(q:Int)<(D.n:Int):=by omega
  have l7:(0:Int)<=(q:Int):=by omega
  obtain rfl:=ha.o (by omega);have cv:=g.o.rv.cell b5;have j7:=(hb.o (by omega)).1;obtain⟨k1,k2,k3,k4,k5,k6,k7⟩:=b0.o q b5;unfold maxLen at k4;have l6:D.na q<=30000:=by have X:=Nat.le_trans (DR D (show q+1<=D.n by omega)) hV.o.arcs;have h2:Ai D (q+1)=Ai D q+D.na q:=rfl;omega
  obtain⟨aq,h5⟩:=exq<|A q;rw[<-h5]at k2 k5;replace k2:=qh k2;replace k5:=qh k5;replace k6:=qh k6;replace k7:=qh k7;clear h5 k1;obtain⟨Z,F⟩:=exq<|v q;rw[<-F]at cv;replace F:=qh F;obtain⟨s0,b7⟩:=exq<|Av D i o v q (zerR D.kind,0);have b2:∀j,smS (s0.1 j):=by rw[b7];exact Ku q (λj=>El D.kind)
  have b1:Av D i o v (q+1) (zerR D.kind,0)=rowR D i o v q s0:=by rw[b7];rfl
  rw[<-b7]at g P;have g6:=qh b1;clear b1 b7;replace b2:=qh b2;have a8:∀W,Fr (λ_=>False) wr W->(λl:World=>l.cell? (Ad vb q)=some (.string Z)/\l.cell? (Ad U 0)=some (.int .i64 D.kind)) W:=λW hf=>⟨hf.cell cv (λe=>e),hf.cell m0 (λe=>e)⟩;have G:=qh a8;clear a8;obtain⟨wd,f4⟩:=exq<|wr.drew;have i4:Fr (λ_=>False) wr wd:=by rw[f4];exact Fr.of_below<|(Below.refl wr.heap.size wr).drew
  have d8:=qh i4;clear i4;have f5:=Eb D.kind wd;rw[<-a9.o]at f5;have g8:=qh f5;clear f5
  go_wp2_with fail
  have c:=G.o wd d8.o;refine AD (λl:World=>l.cell? (Ad vb q)=some (.string Z)/\l.cell? (Ad U 0)=some (.int .i64 D.kind)) 7 (by kernel_rfl) ?_;rw[<-f4];clear f4 cv m0 m3;refine Aa.tm 0 c ?_;refine Aa.tm 1 c ?_;refine Aa.tm 2 c ?_;refine Aa.tm 3 c ?_;refine Aa.tm 4 c ?_;refine Aa.tm 5 c ?_
  try simp only[Act.put,tryL]
  refine Aa.on 6 λK hK=>?_;go_simp;refine g8.o.mono ?_;rintro rr w3⟨rfl,h6⟩;have d7:=qh<|d8.o.trans (Fr.of_below h6);have h0:=G.o w3 d7.o;clear h6 c g8;refine hK.out _ _ (.inr h0) ?_;clear hK K
  try simp only[Act.put,tryL]
  refine Aa.on 7 λK hK=>?_;go_simp;refine hK.out _ _ (.inl rfl) (Aa.dn ?_);clear hK K h0;have d9:=qh<|g.o.new d7.o;clear g d8 G d7;cases hO:(Z.toList==kz.toList)
  ·have b3:v q≠Ak D.kind:=λe=>by rw[<-F.o,<-a9.o]at e;rw[e]at hO;simp at hO
   have a7:=qh<|g6.o.trans (ifn b3);clear b3
   go_wp2_with fail
   go_loopw [14] (λf9 wr=>∃d:Nat,d<=D.na q/\f9=.int .i64 (d:Int)/\(Bf D i o v q d s0).2=0/\StI w wr U vb lb D (.slice (some (Ad b f7)) D.n cp) v (Bf D i o v q d s0).1) (λf9 _=>D.na q-(intOf f9).toNat)
   case atStart=>exact⟨0,Nat.zero_le _,rfl,P.o,d9.o⟩
   obtain⟨d,hd,rfl,Q,hi⟩:=hrel;clear d9;have g:=qh hi;clear hi;replace Q:=qh Q;have m0:=cellOf g.o.bx 0 rfl;have m3:=cellOf g.o.bx 3 rfl;have c1:=(g.o.be.cell (p:=(Ad b (f7+q*2+1))) j7).trans k2.o;by_cases h9:d<D.na q
   ·have m4:(d:Int)<(D.na q:Int):=by omega
    have l5:(0:Int)<=(d:Int):=by omega
    have b4:=(k6.o (by omega)).1;obtain⟨t0,t1,t2,t3⟩:=k7.o d h9;obtain rfl:=k5.o (by omega);have c2:=(g.o.be.cell (p:=(Ad (BB q) (O q+d*4))) b4).trans t0;have c3:=(g.o.be.cell (p:=(Ad (BB q) (O q+d*4+1))) b4).trans t1;have c4:=(g.o.be.cell (p:=(Ad (BB q) (O q+d*4+2))) b4).trans t2;have c5:=(g.o.be.cell (p:=(Ad (BB q) (O q+d*4+3))) b4).trans t3;clear t0 t1 t2 t3;have e6:=hV.o.arc q d b5 h9;obtain⟨Y,b9⟩:∃Y:Nat,D.ato q d=(Y:Int):=⟨(D.ato q d).toNat,by have:=e6.t0;omega⟩;have k0:Y<D.n:=by have:=e6.t1;omega
    obtain⟨s1,b8⟩:=exq<|Bf D i o v q d s0;have d4:∀j,smS (s1.1 j):=by rw[b8];exact IA d b2.o
    rw[<-b8]at g Q;have i6:Bf D i o v q (d+1) s0=if D.ain q d=i/\D.aout q d=o then addR D.kind s1.1 Y Z (D.aw q d) else s1:=by
     show arcR D i o v q d (Bf D i o v q d s0)=_;unfold arcR;rw[<-b8,ifn (by rw[Q.o];simp),b9,F.o];rfl
    have B:=qh i6;clear i6 b8;rw[b9]at c5;replace b9:=qh b9;obtain⟨H,h4⟩:=exq<|D.ain q d;obtain⟨J,d3⟩:=exq<|D.aout q d;obtain⟨aw,L⟩:=exq<|D.aw q d;have j1:smS aw:=by rw[L];exact j3.o q d
    have j0:smS Z:=by rw[F.o];exact f2.o q
    rw[<-h4]at c2 B;rw[<-d3]at c3 B;rw[<-L]at c4 B;clear h4 d3 L e6;obtain⟨w4,S⟩:=exq<|wr.alloc (.cells #[.int .i64 H,.int .i64 J,.string aw,.int .i64 (Y:Int)] 59);obtain⟨xb,d1⟩:=exq<|wr.heap.size;have i2:Fr (λ_=>False) wr w4:=by rw[S];exact Fr.alloc _ _
    have d0:w4.heap[xb]?=some (.cells #[.int .i64 H,.int .i64 J,.string aw,.int .i64 (Y:Int)] 59 (0,0)):=by rw[S,d1];exact han wr _
    have E:=qh<|g.o.new i2;have x0:=cellOf d0 0 rfl;have x1:=cellOf d0 1 rfl;have e3:=qh d0;have e0:=x0;have e1:=x1;rw[S,d1]at e0 e1;clear i2 d0;by_cases X:H=i;by_cases h2:J=o
    ·have g9:(H==i)=true:=by simp[X]
     have j6:(J==o)=true:=by simp[h2]
     have u:=qh<|B.o.trans (ifp ⟨X,h2⟩);obtain⟨z,hz⟩:=exq<|addR D.kind s1.1 Y Z aw;have e5:=λW (h:Fr (λ_=>False) w4 W)=>Iw (k:=D.kind) (t:=Y) (a:=Z) (b:=aw) W (h.row E.o.rl (λe=>e)) k0 j9 (d4 Y) j0 j1;rw[<-hz]at e5 u;have g0:=qh e5;clear e5 hz;have a8:∀W,Fr (λ_=>False) w4 W->(λl:World=>l.cell? (Ad U 0)=some (.int .i64 D.kind)/\l.cell? (Ad xb 3)=some (.int .i64 (Y:Int))/\l.cell? (Ad vb q)=some (.string Z)/\l.cell? (Ad xb 2)=some (.string aw)) W:=λW hf =>
      ⟨hf.cell (cellOf E.o.bx 0 rfl) (λe=>e),hf.cell (cellOf e3.o 3 rfl) (λe=>e),hf.cell (by rw[F.o];exact E.o.rv.cell b5) (λe=>e),hf.cell (cellOf e3.o 2 rfl) (λe=>e)⟩
     have G:=qh a8;clear a8 j1 j0 d4;obtain⟨w5,f3⟩:=exq<|w4.drew;have i3:Fr (λ_=>False) w4 w5:=by rw[f3];exact Fr.of_below<|(Below.refl w4.heap.size w4).drew
     have a5:=qh i3;clear i3;have d2:∀w6,Fr (λq=>q=lb) w5 w6->w6.rowIs lb 9 D.n (λj=>.string (z.1 j))->StI w w6 U vb lb D (.slice (some (Ad b f7)) D.n cp) v z.1:=λw6 h r=>(E.o.new a5.o).upd h r;have g7:=qh d2;clear d2;have h7:∀w6,Fr (λq=>q=lb) w5 w6->(λl:World=>l.cell? (Ad U 0)=some (.int .i64 D.kind)/\l.cell? (Ad xb 3)=some (.int .i64 (Y:Int))/\l.cell? (Ad vb q)=some (.string Z)/\l.cell? (Ad xb 2)=some (.string aw)) w6:=λw6 h=>by
      obtain⟨a1,a2,a3,a4⟩:=G.o w5 a5.o;have j2:xb≠lb:=λe=>by
       obtain⟨cc,hh,_⟩:=E.o.rl;have:=e3.o;rw[e,hh]at this;simp at this
      exact⟨h.cell a1 E.o.ml,h.cell a2 j2,h.cell a3 E.o.vl,h.cell a4 j2⟩
     have g2:=qh h7;clear h7;clear B;subst X h2
     go_wp2_with fail
     rw[<-S,<-d1];have c:=G.o w5 a5.o;refine AD (λl:World=>l.cell? (Ad U 0)=some (.int .i64 D.kind)/\l.cell? (Ad xb 3)=some (.int .i64 (Y:Int))/\l.cell? (Ad vb q)=some (.string Z)/\l.cell? (Ad xb 2)=some (.string aw)) 12 (by kernel_rfl) ?_;rw[<-f3];clear S d1 f3 c1 c2 c3 c4 c5 m0 m3 x0 x1 e0 e1;refine Aa.tm 0 c ?_;refine Aa.tm 1 c ?_;refine Aa.tm 2 c ?_;refine Aa.tm 3 c ?_;refine Aa.tm 4 c ?_;refine Aa.tm 5 c ?_;refine Aa.tm 6 c ?_;refine Aa.tm 7 c ?_;refine Aa.tm 8 c ?_;refine Aa.tm 9 c ?_;refine Aa.tm 10 c ?_
     try simp only[Act.put,tryL]
     refine Aa.on 11 λK hK=>?_;go_simp;refine(g0.o w5 a5.o).mono ?_;rintro rr w6⟨rfl,i8,f0⟩;have g3:=qh<|g7.o w6 f0 i8;have h3:=g2.o w6 f0;clear i8 f0 c g0 g7 g2 G a5;refine hK.out _ _ (.inr h3) ?_;clear hK K
     try simp only[Act.put,tryL]
     refine Aa.on 12 λK hK=>?_;go_simp;refine hK.out _ _ (.inl rfl) (Aa.dn ?_);clear hK K h3;by_cases T:z.2=0
     ·have l4:(z.2:Int)=0:=by omega
      have e4:=qh T;clear T;go_wp2;go_roundw
      case rel=>exact⟨d+1,by omega,by go_num,by rw[u.o];exact e4.o,by rw[u.o];exact g3.o⟩
      simp[intOf];omega
     have l4:¬((z.2:Int)=0):=by omega
     have m7:((z.2:Int)==0)=false:=by simp;omega
     have m8:decide ((z.2:Int)=0)=false:=by simp;omega
     have I:Av D H J v D.n (zerR D.kind,0)=z:=by
      have e1:Bf D H J v q (D.na q) s0=z:=by
       have X:=Lo (D:=D) (i:=H) (o:=J) (v:=v) (q:=q) (s:=s0) (m:=d+1) (by rw[u.o];exact T) (D.na q-(d+1));rw[show d+1+(D.na q-(d+1))=D.na q by omega,u.o]at X;exact X
      have e2:Av D H J v (q+1) (zerR D.kind,0)=z:=a7.o.trans e1;have h2:=Ks (D:=D) (i:=H) (o:=J) (v:=v) (s:=(zerR D.kind,0)) (m:=q+1) (by rw[e2];exact T) (D.n-(q+1));rw[show q+1+(D.n-(q+1))=D.n by omega,e2]at h2;exact h2
     replace I:=qh I;have e4:=qh T;clear T;go_wp2;go_ret2;exact⟨g3.o.be,.inr ⟨by rw[I.o];exact e4.o,by rw[I.o];rfl⟩⟩
    have g9:(H==i)=true:=by simp[X]
    have j6:(J==o)=false:=by simp[h2]
    have l9:decide (J=o)=false:=by simp[h2]
    have u:=qh<|B.o.trans (ifn (λe=>h2 e.2));clear B;subst X
    rotate_left
    have g9:(H==i)=false:=by simp[X]
    have l8:decide (H=i)=false:=by simp[X]
    have u:=qh<|B.o.trans (ifn (λe=>X e.1));clear B
    all_goals
     go_wp2_with fail
     rw[<-S];go_roundw
     case rel=>exact⟨d+1,by omega,by go_num,by rw[u.o];exact Q.o,by rw[u.o];exact E.o⟩
     simp[intOf];omega
   have h8:d=D.na q:=by omega
   have j8:¬((d:Int)<(D.na q:Int)):=by omega
   have he:=Q.o;have hi:=g.o;rw[h8,<-a7.o]at he hi;have d6:=qh he;have a6:=qh hi;clear he hi h8;go_wp2;go_roundw
   case rel=>exact⟨q+1,by omega,by go_num,d6.o,a6.o⟩
   simp[intOf];omega
  have b3:v q=Ak D.kind:=by rw[<-F.o,<-a9.o];exact toList_eq hO
  have b1:Av D i o v (q+1) (zerR D.kind,0)=s0:=g6.o.trans<|ifp b3;have a7:=qh b1;clear b3 b1;go_wp2;go_roundw
  case rel=>exact⟨q+1,by omega,by go_num,by rw[a7.o];exact P.o,by rw[a7.o];exact d9.o⟩
  simp[intOf];omega
 have i7:q=D.n:=by omega
 have j8:¬((q:Int)<(D.n:Int)):=by omega
 have he:=P.o;have hi:=g.o;rw[i7]at he hi;have d6:=qh he;have a6:=qh hi;clear he hi i7;go_wp2;go_ret2;exact⟨a6.o.be,.inl ⟨d6.o,lb,rfl,a6.o.ll,a6.o.rl⟩⟩
def Xf{k:Int}{n Z gb:Nat}{a b:Nat->ByteArray}(w:World)(hn:n<=3000)(o:w.rowIs Z 9 n (λj=>.string (a j)))(u:w.rowIs gb 9 n (λj=>.string (b j)))(ha:∀j,smS (a j))(hb:∀j,smS (b j)):
  Calls prog 66 #[.int .i64 k,.slice (some (Ad Z 0)) n n,.slice (some (Ad gb 0)) n n] w (VerE n (sumR k a b n) w):=by
 have b6:=run_make_row' (P:=prog) 100 9 (.string ⟨#[]⟩) 16 underlying100 Jj rfl .i64 .i64 n (by omega) (by omega);obtain⟨w1,L⟩:=exq<|w.alloc (.cells (madeCells #[.string ⟨#[]⟩] n) 9);obtain⟨g,hg⟩:=exq<|w.heap.size;have I:Fr (λ_=>False) w w1:=by rw[L];exact Fr.alloc _ _
 have O:w1.rowIs g 9 n (λj=>.string ((sumR k a b 0).1 j)):=by rw[L,hg];exact World.rowIs_made w _ _ _
 have i:=qh O;clear O;have B:=qh<|I.row o (λe=>e);have C:=qh<|I.row u (λe=>e);have a1:=qh<|show Below w.heap.size w w1 from I.below nlr (λ_ e=>e.elim);have a4:=qh (show w.heap.size<=g by omega);have b2:=qh (show Z≠g by have:=o.lt;omega);have b3:=qh (show gb≠g by have:=u.lt;omega);replace ha:=qh ha;replace hb:=qh hb;clear o u I
 go_enter func66,ntmps66
 go_wp2_with fail
 rw[<-L,<-hg];clear L hg b6
 go_loopw [9] (λv9 wr=>∃q:Nat,q<=n/\v9=.int .i64 (q:Int)/\(sumR k a b q).2=0/\wr.rowIs g 9 n (λj=>.string ((sumR k a b q).1 j))/\wr.rowIs Z 9 n (λj=>.string (a j))/\wr.rowIs gb 9 n (λj=>.string (b j))/\Below w.heap.size w wr) (λv9 _=>n-(intOf v9).toNat)
 case atStart=>exact⟨0,Nat.zero_le _,rfl,rfl,i.o,B.o,C.o,a1.o⟩
 obtain⟨q,hq,rfl,he,a8,o,u,D⟩:=hrel;clear i B C a1;have HE:=qh he;clear he;have i:=qh a8;clear a8;have B:=qh o;clear o;have C:=qh u;clear u;replace D:=qh D;by_cases X:q<n
 ·have d1:(q:Int)<(n:Int):=by omega
  have b7:(0:Int)<=(q:Int):=by omega
  obtain⟨R,F⟩:=exq<|a q;obtain⟨S,G⟩:=exq<|b q;obtain⟨s,hs⟩:=exq<|sumR k a b q;obtain⟨z,hz⟩:=exq<|Ap k R S;have a9:smS R:=by rw[F];exact ha.o q
  have b0:smS S:=by rw[G];exact hb.o q
  have H:∀W,Fr (λ_=>False) wr W->(λwk:World=>wk.cell? (Ad Z q)=some (.string R)/\wk.cell? (Ad gb q)=some (.string S)) W:=λW hf=>⟨by rw[F];exact(hf.row B.o (λe=>e)).cell X,by rw[G];exact(hf.row C.o (λe=>e)).cell X⟩;replace H:=qh H;rw[<-hs]at i HE;have J:sumR k a b (q+1)=if z.2≠0 then (s.1,z.2) else (updS s.1 q z.1,0):=by
   show (if (sumR k a b q).2≠0 then _ else _)=_
   rw[<-hs,ifn (by rw[HE.o];simp),hz,F,G]
  replace J:=qh J;clear hs F G;obtain⟨wd,Y⟩:=exq<|wr.drew;have a2:=qh (show Fr (λ_=>False) wr wd by rw[Y];exact Fr.of_below ((Below.refl wr.heap.size wr).drew));have hp:=Hp k R S wd a9 b0;rw[<-hz]at hp;have HP:=qh hp;clear hp hz a9 b0
  go_wp2_with fail
  have d:=H.o wd a2.o;refine AD (λwk:World=>wk.cell? (Ad Z q)=some (.string R)/\wk.cell? (Ad gb q)=some (.string S)) 14 (by kernel_rfl) ?_;rw[<-Y];clear Y;refine Aa.tm 0 d ?_;refine Aa.tm 1 d ?_;refine Aa.tm 2 d ?_;refine Aa.tm 3 d ?_;refine Aa.tm 4 d ?_;refine Aa.tm 5 d ?_;refine Aa.tm 6 d ?_;refine Aa.tm 7 d ?_;refine Aa.tm 8 d ?_
  try simp only[Act.put,tryL]
  refine Aa.on 9 λK N=>?_;go_simp;refine HP.o.mono ?_;rintro rr w3⟨rfl,a6⟩;have A:=qh<|a2.o.trans (Fr.of_below a6);have l:=H.o w3 A.o;clear a6 d HP;refine N.out _ _ (.inr l) ?_;clear N K
  try simp only[Act.put,tryL]
  refine Aa.tm 10 l ?_;refine Aa.tm 11 l ?_;refine Aa.tm 12 l ?_
  try simp only[Act.put,tryL]
  refine Aa.on 13 λK N=>?_;go_simp;refine N.out _ _ (.inr l) ?_;clear N K
  try simp only[Act.put,tryL]
  refine Aa.on 14 λK N=>?_;go_simp;refine N.out _ _ (.inl rfl) (Aa.dn ?_);clear N K l;have E:=A.o.row i.o (λe=>e);have c0:=E.cell X;have f0:=E.frozen q;replace E:=qh E;have Q:=qh<|D.o.trans (A.o.below D.o.size (λ_ e=>e.elim));by_cases h1:z.2=0
  ·have b5:(z.2:Int)=0:=by omega
   have a5:=qh<|J.o.trans (ifn (by omega));go_wp2;go_roundw
   case rel =>
    have T:Fr (λc=>c=g) w3 (w3.setCell (Ad g q) (.string z.1)):=(Fr.refl (λc=>c=g) w3).set (p:=(Ad g q)) (.inl rfl) _;refine⟨q+1,by omega,by go_num,by rw[a5.o],?_,T.row (A.o.row B.o (λe=>e)) b2.o,T.row (A.o.row C.o (λe=>e)) b3.o,Q.o.trans (T.below Q.o.size (λc e=>by rw[e];exact a4.o))⟩;rw[a5.o];refine(E.o.set q _).congr (λj _=>?_);show _=Value.string (updS s.1 q z.1 j);unfold updS;by_cases e:j=q
    ·rw[ifp e,ifp e]
    rw[ifn e,ifn e]
   simp[intOf];omega
  have b5:¬((z.2:Int)=0):=by omega
  have b8:((z.2:Int)==0)=false:=by simp;omega
  have b9:decide ((z.2:Int)=0)=false:=by simp;omega
  have U:sumR k a b (q+1)=(s.1,z.2):=J.o.trans<|ifp h1;have h:sumR k a b n=(s.1,z.2):=by
   have h2:=Ky (k:=k) (a:=a) (b:=b) (m:=q+1) (by rw[U];exact h1) (n-(q+1));rw[show q+1+(n-(q+1))=n by omega,U]at h2;exact h2
  replace h:=qh h;clear U;replace h1:=qh h1;clear c0 f0;go_wp2;go_ret2;exact⟨Q.o,.inr ⟨by rw[h.o];exact h1.o,by rw[h.o];rfl⟩⟩
 have a7:q=n:=by omega
 have d0:¬((q:Int)<(n:Int)):=by omega
 have he:=HE.o;have hr:=i.o;rw[a7]at he hr;have b1:=qh he;have b4:=qh hr;clear he hr a7;go_wp2;go_ret2;exact⟨D.o,.inl ⟨b1.o,g,rfl,a4.o,b4.o⟩⟩
def endR(D:MD)(v:Nat->ByteArray):ByteArray × Nat:=if (finR D v D.n).2≠0 then (⟨#[]⟩,(finR D v D.n).2) else ((finR D v D.n).1 0,0)
def SU{D:MD}{sv:Value}{v:Nat->ByteArray}{vb:Nat}(w:World)(hV:VM D)(hD:StS none w sv D)(b3:w.rowIs vb 9 D.n (λj=>.string (v j)))(b4:∀j,smS (v j))(b1:∀i,smS (D.fin i)):
  Calls prog 67 #[.agg #[.int .i64 D.kind,.int .i64 D.start,.string D.lead,sv],.slice (some (Ad vb 0)) D.n D.n] w (PairEnd (endR D v) w):=by
 obtain⟨a,cp,b,Q,A,C,BB,O,rfl,ha,hc,hm,hb,L⟩:=hD.open;unfold maxLen at hm;obtain⟨R,E⟩:=exq<|w.alloc (.cells #[.int .i64 D.kind,.int .i64 D.start,.string D.lead,.slice a D.n cp] 25);obtain⟨P,Z⟩:=exq<|w.heap.size;have e9:R.heap.size=w.heap.size+1:=by rw[E];simp
 have a9:Fr (λ_=>False) w R:=by rw[E];exact Fr.alloc _ _
 have B:BxM R P D (.slice a D.n cp):=by rw[E,Z];exact BxM.new w D _
 have b7:=qh<|show Below w.heap.size w R from a9.below nlr (λ_ e=>e.elim);have u:=qh<|a9.row b3 (λe=>e);have e6:=qh b3.lt;have g:=qh B;have e3:=Eb D.kind R;have d2:=qh e3;clear e3;replace ha:=qh ha;replace hb:=qh hb;replace L:=qh L;clear hD;replace b4:=qh b4;replace b1:=qh b1;have e4:=qh (show P<R.heap.size by omega);have a7:=qh (show w.heap.size<=R.heap.size by omega);have m0:=cellOf B 0 rfl;have f3:D.n<=3000:=hV.n2;clear b3 a9 B hc e9 hV;have l0:=m0;rw[E,Z]at l0
 go_enter func67,ntmps67
 go_wp2_with fail
 rw[<-E];clear E l0 m0;refine d2.o.mono ?_;rintro rr w2⟨rfl,H⟩;have d4:Fr (λ_=>False) R w2:=Fr.of_below H;obtain⟨w3,a4⟩:=exq<|w2.alloc (.cells #[.string (Ak D.kind)] 9);obtain⟨N,b2⟩:=exq<|w2.heap.size;have X:Fr (λ_=>False) R w3:=by rw[a4];exact d4.trans<|Fr.alloc _ _
 have J:w3.rowIs N 9 1 (λj=>.string ((finR D v 0).1 j)):=by
  refine⟨#[.string (Ak D.kind)],by rw[a4,b2];exact han w2 _,rfl,λi hi=>?_⟩;obtain rfl:i=0:=by omega
  rfl
 have HI:=qh (show BxM w3 P D (.slice a D.n cp)/\w3.rowIs vb 9 D.n (λj=>.string (v j))/\w3.rowIs N 9 1 (λj=>.string ((finR D v 0).1 j))/\Below w.heap.size w w3 from
  ⟨g.o.kept X (λe=>e),X.row u.o (λe=>e),J,b7.o.trans (X.below a7.o (λ_ e=>e.elim))⟩)
 have d0:=qh (show w.heap.size<=N by have:=H.size;have:=a7.o;omega);have a6:=qh (show P≠N by have:=H.size;have:=e4.o;omega);have d1:=qh (show vb≠N by have:=H.size;have:=e6.o;have:=a7.o;omega);clear H d4 X J d2 b7 g u
 go_wp2_with fail
 rw[<-a4,<-b2,<-Z];clear a4 b2 Z
 go_loopw [7] (λv7 wr=>∃q:Nat,q<=D.n/\v7=.int .i64 (q:Int)/\(finR D v q).2=0/\BxM wr P D (.slice a D.n cp)/\wr.rowIs vb 9 D.n (λj=>.string (v j))/\wr.rowIs N 9 1 (λj=>.string ((finR D v q).1 j))/\Below w.heap.size w wr) (λv7 _=>D.n-(intOf v7).toNat)
 case atStart=>exact⟨0,Nat.zero_le _,rfl,rfl,HI.o⟩
 obtain⟨q,hq,rfl,he,B,d9,J,o⟩:=hrel;clear HI;replace he:=qh he;have g:=qh B;clear B;have u:=qh d9;clear d9;have T:=qh J;clear J;replace o:=qh o;have m3:=cellOf g.o 3 rfl;by_cases d7:q<D.n
 ·have f4:(q:Int)<(D.n:Int):=by omega
  have f1:(0:Int)<=(q:Int):=by omega
  obtain rfl:=ha.o (by omega);have e8:=(hb.o (by omega)).1;obtain⟨k1,_⟩:=L.o q d7;obtain⟨F,Y⟩:=exq<|D.fin q;rw[<-Y]at k1;have c1:=(o.o.cell (p:=(Ad b (Q+q*2))) e8).trans k1;obtain⟨s,hs⟩:=exq<|finR D v q;have e2:∀j,smS (s.1 j):=by rw[hs];exact Mn q
  rw[<-hs]at T he;have a1:finR D v (q+1)=if F=⟨#[]⟩ then s else addR D.kind s.1 0 (v q) F:=by
   show (if (finR D v q).2≠0 then _ else _)=_
   rw[<-hs,ifn (by rw[he.o];simp),Y]
  replace a1:=qh a1;clear hs;have e0:smS F:=by rw[Y];exact b1.o q
  clear Y k1;cases hO:(F.toList==[])
  ·have I:F≠⟨#[]⟩:=λe=>by rw[e]at hO;simp at hO
   have h:=qh<|a1.o.trans (ifn I);clear I;obtain⟨vq,a2⟩:=exq<|v q;obtain⟨z,hz⟩:=exq<|addR D.kind s.1 0 vq F;rw[<-a2,<-hz]at h;have e1:smS vq:=by rw[a2];exact b4.o q
   have U:∀W,Fr (λc=>c=N) wr W->(λwk:World=>wk.cell? (Ad P 0)=some (.int .i64 D.kind)/\wk.cell? (Ad P 3)=some (.slice (some (Ad b Q)) D.n cp)/\wk.cell? (Ad vb q)=some (.string vq)/\wk.cell? (Ad b (Q+q*2))=some (.string F)) W:=λW hf =>
    ⟨cellOf (g.o.kept hf a6.o) 0 rfl,cellOf (g.o.kept hf a6.o) 3 rfl,by rw[a2];exact(hf.row u.o d1.o).cell d7,hf.cell c1 (λe=>by have:b=N:=e;have:=d0.o;omega)⟩
   replace U:=qh U;obtain⟨wd,b5⟩:=exq<|wr.drew;have b0:Fr (λ_=>False) wr wd:=by rw[b5];exact Fr.of_below<|(Below.refl wr.heap.size wr).drew
   have a8:=Iw (k:=D.kind) (t:=0) (a:=vq) (b:=F) wd (b0.row T.o (λe=>e)) (by omega) (by omega) (e2 0) e1 e0;rw[<-hz]at a8;have b6:=qh a8;have b9:=qh<|b0.mono (C':=λc=>c=N) (λ_ _ e=>e.elim);clear a8 b0 hz a2 e1 e2 e0
   go_wp2_with fail
   have d:=U.o wd b9.o;refine AD (λwk:World=>wk.cell? (Ad P 0)=some (.int .i64 D.kind)/\wk.cell? (Ad P 3)=some (.slice (some (Ad b Q)) D.n cp)/\wk.cell? (Ad vb q)=some (.string vq)/\wk.cell? (Ad b (Q+q*2))=some (.string F)) 14 (by kernel_rfl) ?_;rw[<-b5];clear b5 c1 m3;refine Aa.tm 0 d ?_;refine Aa.tm 1 d ?_;refine Aa.tm 2 d ?_;refine Aa.tm 3 d ?_;refine Aa.tm 4 d ?_;refine Aa.tm 5 d ?_;refine Aa.tm 6 d ?_;refine Aa.tm 7 d ?_;refine Aa.tm 8 d ?_;refine Aa.tm 9 d ?_;refine Aa.tm 10 d ?_;refine Aa.tm 11 d ?_;refine Aa.tm 12 d ?_
   try simp only[Act.put,tryL]
   refine Aa.on 13 λK hK=>?_;go_simp;refine b6.o.mono ?_;rintro rr w5⟨rfl,d8,d5⟩;have S:=qh<|b9.o.trans d5;have e5:=qh d8;have d3:=U.o w5 S.o;clear d8 d5 d b6;refine hK.out _ _ (.inr d3) ?_;clear hK K
   try simp only[Act.put,tryL]
   refine Aa.on 14 λK hK=>?_;go_simp;refine hK.out _ _ (.inl rfl) (Aa.dn ?_);clear hK K d3;have b8:=qh (o.o.trans (S.o.below o.o.size (λc e=>by rw[e];exact d0.o)));by_cases a5:z.2=0
   ·have f0:(z.2:Int)=0:=by omega
    have e7:=qh a5;clear a5;go_wp2;go_roundw
    case rel=>exact⟨q+1,by omega,by go_num,by rw[h.o];exact e7.o,g.o.kept S.o a6.o,S.o.row u.o d1.o,by rw[h.o];exact e5.o,b8.o⟩
    simp[intOf];omega
   have f0:¬((z.2:Int)=0):=by omega
   have f5:((z.2:Int)==0)=false:=by simp;omega
   have f7:decide ((z.2:Int)=0)=false:=by simp;omega
   have l:endR D v=(⟨#[]⟩,z.2):=by
    have h2:=Je (D:=D) (v:=v) (m:=q+1) (by rw[h.o];exact a5) (D.n-(q+1));rw[show q+1+(D.n-(q+1))=D.n by omega,h.o]at h2;unfold endR;rw[h2,ifp a5]
   have G:=qh l;clear l;go_wp2;go_ret2;exact⟨by rw[G.o];rfl,b8.o⟩
  have I:F=⟨#[]⟩:=Jb hO;have h:=qh<|a1.o.trans (ifp I);clear I;go_wp2;go_roundw
  case rel=>exact⟨q+1,by omega,by go_num,by rw[h.o];exact he.o,g.o,u.o,by rw[h.o];exact T.o,o.o⟩
  simp[intOf];omega
 have d6:q=D.n:=by omega
 have f2:¬((q:Int)<(D.n:Int)):=by omega
 have c0:=T.o.cell (i:=0) (by omega);have l:endR D v=((finR D v q).1 0,0):=by unfold endR;rw[d6]at he ⊢;rw[ifn (by rw[he.o];simp)]
 have G:=qh l;clear l d6;go_wp2;go_ret2;exact⟨by rw[G.o];rfl,o.o⟩

def LA(w:World)(o:Obj):Below w.heap.size w (w.alloc o):=blr.alloc nlr _
def XZ{D:MD}{v:Value}(w:World)(hM:Ma none w v D)(hs:MSz D):Calls prog 17 #[v] w (ValidE D w):=by
 obtain⟨sv,rfl,hS⟩:=hM;obtain⟨a,J,b,b7,A,C,BB,O,rfl,ha,hc,hm,hb,R⟩:=hS.open;unfold maxLen at hm;clear hS;have u:=BoxM.new w D (.slice a D.n J);have a9:=LA w (.cells #[.int .i64 D.kind,.int .i64 D.start,.string D.lead,.slice a D.n J] 25);have h7:=hs.n;replace hs:=qh hs;replace ha:=qh ha;replace hb:=qh hb;replace R:=qh R;have m0:=u.c0;have m1:=u.c1;have m2:=u.c2;have m3:=u.c3;have G:=qh u;clear u;have m:=qh a9;clear a9;have e6:=qh<|λwx=>Gf D.kind wx;have e9:=qh<|λwx=>JV D.kind D.lead wx hs.o.lead
 go_enter func17,ntmps17
 go_wp2_with fail
 refine(e6.o _).mono ?_;rintro r w1⟨rfl,rfl⟩;cases Y:As D.kind
 ·go_wp2;go_ret;exact⟨m.o,.inr ⟨λv=>by have s:=v.kind;rw[Y]at s;exact absurd s (by simp),rfl⟩⟩
 by_cases h4:D.n<1
 ·have d7:decide ((D.n:Int)<1)=true:=by simp;omega
  go_wp2;go_ret;exact⟨m.o,.inr ⟨λv=>by have s:=v.n1;omega,rfl⟩⟩
 have d7:decide ((D.n:Int)<1)=false:=by simp;omega
 by_cases h5:3000<D.n
 ·have d8:decide ((3000:Int)<(D.n:Int))=true:=by simp;omega
  go_wp2;go_ret;exact⟨m.o,.inr ⟨λv=>by have s:=v.n2;omega,rfl⟩⟩
 have d8:decide ((3000:Int)<(D.n:Int))=false:=by simp;omega
 by_cases i3:D.start<0
 ·go_wp2;go_ret;exact⟨m.o,.inr ⟨λv=>by have s:=v.s0;omega,rfl⟩⟩
 have g4:decide (D.start<0)=false:=by simp;omega
 by_cases i4:(D.n:Int)<=D.start
 ·go_wp2;go_ret;exact⟨m.o,.inr ⟨λv=>by have s:=v.s1;omega,rfl⟩⟩
 have g5:decide ((D.n:Int)<=D.start)=false:=by simp;omega
 have P:1<=D.n/\D.n<=3000/\0<=D.start/\D.start<(D.n:Int):=by omega
 replace P:=qh P;replace Y:=qh Y
 go_wp2_with fail
 obtain⟨wm,S⟩:=exq<|w.alloc (.cells #[.int .i64 D.kind,.int .i64 D.start,.string D.lead,.slice a D.n J] 25);obtain⟨mb,a1⟩:=exq<|w.heap.size;rw[<-S,<-a1]at G;rw[<-S]at m;rw[<-S,<-a1]at m0 m1 m2 m3;rw[<-S,<-a1];clear S a1;refine(e9.o _).mono ?_;rintro r w1⟨rfl,U⟩;clear m0 m1 m2 m3;cases hw:Am D.kind D.lead
 ·go_wp2;go_ret;exact⟨m.o.trans (U.mono m.o.size),.inr ⟨λv=>by rw[v.lead]at hw;exact absurd hw (by simp),rfl⟩⟩
 have b1:=G.o.kept (Ae U none) (by simp);have a8:=m.o.trans<|U.mono m.o.size;clear U;replace hw:=qh hw;have a6:=qh b1;clear b1 G;have a5:=qh a8;clear a8 m
 go_wp2_with fail
 go_loopw [3,4] (λc i wr=>∃q T:Nat,q<=D.n/\i=.int .i64 (q:Int)/\c=.int .i64 (T:Int)/\T=Ai D q/\T<=30000/\
  (∀l,l<q->(D.fin l=⟨#[]⟩\/Am D.kind (D.fin l)=true)/\∀k,k<D.na l->ArcOk D l k)/\BoxM wr mb D (.slice a D.n J)/\Below w.heap.size w wr) (λ_ i _=>D.n-(intOf i).toNat)
 case atStart=>exact⟨0,0,Nat.zero_le _,rfl,rfl,rfl,by omega,λl hl=>by omega,a6.o,a5.o⟩
 obtain⟨q,T,hq,rfl,rfl,L,f1,N,b5,E⟩:=hrel;clear a6 a5;have m3:=b5.c3;replace N:=qh N;have G:=qh b5;clear b5;replace E:=qh E;by_cases B:q<D.n
 ·have i2:(q:Int)<(D.n:Int):=by omega
  have g3:(0:Int)<=(q:Int):=by omega
  obtain rfl:=ha.o (by omega);have d4:=(hb.o (by omega)).1;obtain⟨k1,k2,k3,k4,k5,k6,k7⟩:=R.o q B;obtain⟨aq,d3⟩:=exq<|A q;rw[<-d3]at k2 k5;clear d3;have c0:=(E.o.cell (p:=(Ad b (b7+q*2))) d4).trans k1;have c1:=(E.o.cell (p:=(Ad b (b7+q*2+1))) d4).trans k2;unfold maxLen at k4;have a4:=λo=>(BoxM.c0 (G.o.kept (World.grownBy_alloc wr o none) (by simp)));have a7:=qh<|λo=>G.o.kept (World.grownBy_alloc wr o none) (by simp);have H:=qh<|λo=>E.o.alloc E.o.size o;have d0:=qh<|λo=>IL wr #[.string (D.fin q),.slice aq (D.na q) (C q)] o 1 _ rfl;clear k1 k2;replace k7:=qh k7;replace k5:=qh k5;replace k6:=qh k6;have h6:=hs.o.na q;have f3:IntKind.i64.wrap ((T:Int)+(D.na q:Int))=(T:Int)+(D.na q:Int):=by rw[IntKind.wrap_i64];omega
  by_cases hG:30000<T+D.na q
  ·have f0:decide ((30000:Int)<(T:Int)+(D.na q:Int))=true:=by simp;omega
   go_wp2;go_ret;exact⟨H.o _,.inr ⟨λv=>by have s:=v.arcs;have h2:=DR D (show q+1<=D.n by omega);have h3:Ai D (q+1)=Ai D q+D.na q:=rfl;omega,rfl⟩⟩
  have f0:decide ((30000:Int)<(T:Int)+(D.na q:Int))=false:=by simp;omega
  have f7:Ai D q+D.na q<=30000:=by omega
  subst L;obtain⟨xb,I⟩:=exq<|wr.heap.size;cases hF:((D.fin q).toList==[])
  focus
   have e8:=qh<|λwx=>JV D.kind (D.fin q) wx (hs.o.fin q)
   go_wp2_with fail
   refine(e8.o _).mono ?_;rintro r w2⟨rfl,K⟩;cases a2:Am D.kind (D.fin q)
   ·go_wp2;go_ret;exact⟨(H.o _).trans (K.mono (H.o _).size),.inr ⟨λv=>by
     rcases v.fin q B with s|s
     ·rw[s]at hF;exact absurd hF (by simp)
     rw[s]at a2;exact absurd a2 (by simp),rfl⟩⟩
   have e4:=(a7.o (.cells #[.string (D.fin q),.slice aq (D.na q) (C q)] 63)).kept (Ae K none) (by simp);have e5:=(H.o (.cells #[.string (D.fin q),.slice aq (D.na q) (C q)] 63)).trans (K.mono (H.o _).size);have F:=(Ae K none).cell (d0.o _) (by simp);clear K a4 m3 c0 c1;rw[<-I]at F;have b2:=qh e4;clear e4;have b3:=qh e5;clear e5;have b4:=qh F;clear F;have b8:=qh<|show D.fin q=⟨#[]⟩\/Am D.kind (D.fin q)=true from .inr a2;clear a2
   go_wp2_with fail
   rw[<-I];clear I
  rotate_left
  focus
   have d6:D.fin q=⟨#[]⟩:=by rw[beq_iff_eq,Lib.toList_data]at hF;exact ByteArray.ext<|Array.toList_inj.1 hF
   have b8:=qh<|show D.fin q=⟨#[]⟩\/Am D.kind (D.fin q)=true from .inl d6;clear d6;have b2:=qh<|a7.o (.cells #[.string (D.fin q),.slice aq (D.na q) (C q)] 63);have b3:=qh<|H.o (.cells #[.string (D.fin q),.slice aq (D.na q) (C q)] 63);have F:=d0.o 63;rw[<-I]at F;have b4:=qh F;clear F
   go_wp2_with fail
   rw[<-I];clear I a4 m3 c0 c1
  all_goals
   go_loopw [6] (λi wr=>∃d:Nat,d<=D.na q/\i=.int .i64 (d:Int)/\(∀k,k<d->ArcOk D q k)/\BoxM wr mb D (.slice (some (Ad b b7)) D.n J)/\wr.cell? (Ad xb 1)=some (.slice aq (D.na q) (C q))/\Below w.heap.size w wr) (λi _=>D.na q-(intOf i).toNat)
   case atStart=>exact⟨0,Nat.zero_le _,rfl,λk hk=>by omega,b2.o,b4.o,b3.o⟩
   obtain⟨d,hd,rfl,Z,z,x1,g⟩:=hrel;clear b2 b3 b4;replace Z:=qh Z;replace z:=qh z;replace g:=qh g;by_cases j:d<D.na q
   ·have g8:(d:Int)<(D.na q:Int):=by omega
    have f8:(0:Int)<=(d:Int):=by omega
    obtain rfl:=k5.o (by omega);have X:=(k6.o (by omega)).1;obtain⟨j0,j1,j2,j3⟩:=k7.o d j;have e0:=(g.o.cell (p:=(Ad (BB q) (O q+d*4))) X).trans j0;have e1:=(g.o.cell (p:=(Ad (BB q) (O q+d*4+1))) X).trans j1;have e2:=(g.o.cell (p:=(Ad (BB q) (O q+d*4+2))) X).trans j2;have e3:=(g.o.cell (p:=(Ad (BB q) (O q+d*4+3))) X).trans j3;clear j0 j1 j2 j3;have a4:=λo=>(BoxM.c0 (z.o.kept (World.grownBy_alloc wr o none) (by simp)));have f5:=λo=>(BoxM.c3 (z.o.kept (World.grownBy_alloc wr o none) (by simp)));have b9:=qh<|λo=>z.o.kept (World.grownBy_alloc wr o none) (by simp);have d1:=qh<|λo=>(World.grownBy_alloc wr o none).cell x1 (by simp);have h:=qh<|λo=>g.o.alloc g.o.size o;have d2:=qh<|λwx=>JV D.kind (D.aw q d) wx (hs.o.aw q d);by_cases g9:D.ain q d<0
    ·go_wp2;go_ret;exact⟨h.o _,.inr ⟨λv=>by have s:=(v.arc q d B j).i0;omega,rfl⟩⟩
    have f9:decide (D.ain q d<0)=false:=by simp;omega
    by_cases h0:500<D.ain q d
    ·go_wp2;go_ret;exact⟨h.o _,.inr ⟨λv=>by have s:=(v.arc q d B j).i1;omega,rfl⟩⟩
    have g0:decide ((500:Int)<D.ain q d)=false:=by simp;omega
    by_cases h8:D.aout q d<0
    ·go_wp2;go_ret;exact⟨h.o _,.inr ⟨λv=>by have s:=(v.arc q d B j).o0;omega,rfl⟩⟩
    have g1:decide (D.aout q d<0)=false:=by simp;omega
    by_cases h9:500<D.aout q d
    ·go_wp2;go_ret;exact⟨h.o _,.inr ⟨λv=>by have s:=(v.arc q d B j).o1;omega,rfl⟩⟩
    have g2:decide ((500:Int)<D.aout q d)=false:=by simp;omega
    by_cases i5:D.ato q d<0
    ·go_wp2;go_ret;exact⟨h.o _,.inr ⟨λv=>by have s:=(v.arc q d B j).t0;omega,rfl⟩⟩
    have g6:decide (D.ato q d<0)=false:=by simp;omega
    by_cases i6:(D.n:Int)<=D.ato q d
    ·go_wp2;go_ret;exact⟨h.o _,.inr ⟨λv=>by have s:=(v.arc q d B j).t1;omega,rfl⟩⟩
    have g7:decide ((D.n:Int)<=D.ato q d)=false:=by simp;omega
    go_wp2_with fail
    refine(d2.o _).mono ?_;rintro r w4⟨rfl,W⟩;have d5:=(b9.o _).kept (Ae W none) (by simp);have f4:=(Ae W none).cell (d1.o _) (by simp);have b0:=(h.o _).trans (W.mono (h.o _).size);clear W a4 f5 e0 e1 e2 e3 x1;cases d9:Am D.kind (D.aw q d)
    ·go_wp2;go_ret;exact⟨b0,.inr ⟨λv=>by have s:=(v.arc q d B j).wt;rw[d9]at s;exact absurd s (by simp),rfl⟩⟩
    have e7:=qh d9;go_wp2;go_roundw
    case rel =>
     refine⟨d+1,by omega,by go_num,λk hk=>?_,d5,f4,b0⟩
     rcases Nat.lt_succ_iff_lt_or_eq.1 hk with h2|h2
     ·exact Z.o k h2
     subst h2;exact⟨by omega,by omega,by omega,by omega,by omega,by omega,e7.o⟩
    simp[intOf];omega
   have b6:d=D.na q:=by omega
   have f2:¬((d:Int)<(D.na q:Int)):=by omega
   replace b6:=qh b6;go_wp2;go_roundw
   case rel =>
    refine⟨q+1,Ai D q+D.na q,by omega,by go_num,by go_num,rfl,by omega,λl hl=>?_,z.o,g.o⟩
    rcases Nat.lt_succ_iff_lt_or_eq.1 hl with h2|h2
    ·exact N.o l h2
    subst h2;exact⟨b8.o,λk hk=>Z.o k (by have:=b6.o;omega)⟩
   simp[intOf];omega
 have Q:q=D.n:=by omega
 have f2:¬((q:Int)<(D.n:Int)):=by omega
 obtain⟨p1,p2,p3,p4⟩:=P.o;rw[Q]at L;replace L:=qh L;replace Q:=qh Q;go_wp2;go_ret;exact⟨E.o,.inl ⟨⟨Y.o,p1,p2,p3,p4,hw.o,by rw[<-L.o];exact f1,λi hi=>(N.o i (by have:=Q.o;omega)).1,λi k hi hk=>(N.o i (by have:=Q.o;omega)).2 k hk⟩,rfl⟩⟩
end
section
open Go.RowKit Go.Deep
variable{g i j n v:Nat}{w:World}
abbrev TbR:=Nat->Nat->Nat->ByteArray
def updT(X:TbR)(a b:Nat)(v:Nat->ByteArray):TbR:=λi j=>if i=a/\j=b then v else X i j
def X0R(D:MD):TbR:=λi j=>if i=0/\j=0 then updS (zerR D.kind) D.start.toNat D.lead else zerR D.kind
def kR(D:MD)(na:Nat)(x:Nat->Int)(nb:Nat)(y:Nat->Int)(i j u v:Nat)(s:TbR × Nat):TbR × Nat :=
 if s.2≠0\/na<i+u\/nb<j+v then s
 else if (Av D (if u=1 then x i else 0) (if v=1 then y j else 0) (s.1 i j) D.n (zerR D.kind,0)).2≠0 then (s.1,(Av D (if u=1 then x i else 0) (if v=1 then y j else 0) (s.1 i j) D.n (zerR D.kind,0)).2)
 else if (sumR D.kind (s.1 (i+u) (j+v)) (Av D (if u=1 then x i else 0) (if v=1 then y j else 0) (s.1 i j) D.n (zerR D.kind,0)).1 D.n).2≠0 then (s.1,(sumR D.kind (s.1 (i+u) (j+v)) (Av D (if u=1 then x i else 0) (if v=1 then y j else 0) (s.1 i j) D.n (zerR D.kind,0)).1 D.n).2)
 else (updT s.1 (i+u) (j+v) (sumR D.kind (s.1 (i+u) (j+v)) (Av D (if u=1 then x i else 0) (if v=1 then y j else 0) (s.1 i j) D.n (zerR D.kind,0)).1 D.n).1,0)
def mvR(D:MD)(na:Nat)(x:Nat->Int)(nb:Nat)(y:Nat->Int)(i j:Nat):Nat->TbR × Nat->TbR × Nat
 |0,s=>s
 |1,s=>s
 |k+1,s=>kR D na x nb y i j (k % 2) (k / 2) (mvR D na x nb y i j k s)
section
variable{D:MD}{na:Nat}{x:Nat->Int}{nb:Nat}{y:Nat->Int}
def Tv{u:Nat}{s:TbR × Nat}(h:s.2≠0):kR D na x nb y i j u v s=s:=ifp<|.inl h
def Uw{k:Nat}{s:TbR × Nat}(c:0<k):mvR D na x nb y i j (k+1) s=kR D na x nb y i j (k % 2) (k / 2) (mvR D na x nb y i j k s):=by
 cases k with
 |zero=>omega
 |succ k=>rfl
theorem Hc{i j k:Nat}{s:TbR × Nat}(h:(mvR D na x nb y i j k s).2≠0):∀d,mvR D na x nb y i j (k+d) s=mvR D na x nb y i j k s
 |0=>rfl
 |d+1=>by
  by_cases hk:0<k+d
  ·rw[<-Nat.add_assoc,Uw hk,Hc h d,Tv h]
  have:k=0/\d=0:=by omega
  rw[this.1,this.2];rfl
end
def smT(X:TbR):Prop:=∀i j p,smS (X i j p)
def smT.upd{X:TbR}(h:smT X){a b:Nat}{v:Nat->ByteArray}(c:∀p,smS (v p)):smT (updT X a b v):=λi j p=>by
 unfold updT;split
 ·exact c p
 exact h i j p
def Qh{D:MD}(h:smS D.lead):smT (X0R D):=λi j p=>by
 unfold X0R;split
 ·exact Il (λ_=>El _) h p
 exact El _
def dn(k jd q j:Nat):Prop:=q+1<k\/(q+1=k/\j<jd)
instance (k jd q j:Nat):Decidable (dn k jd q j):=inferInstanceAs<|Decidable (_\/_)
structure TQ(w:World)(B g n1 n2 n k jd:Nat)(r:Nat->Nat)(s:Nat->Nat->Nat)(z:ByteArray):Prop where
 top:w.rowIs g 96 n1 (λq=>if q<k then .slice (some (Ad (r q) 0)) n2 n2 else .slice none 0 0)
 mid:∀q,q<k->w.rowIs (r q) 100 n2 (λj=>if dn k jd q j then .slice (some (Ad (s q j) 0)) n n else .slice none 0 0)/\B<=r q
 rinj:∀q q',q<k->q' < k->r q=r q'->q=q'
 vec:∀q j,q<k->j<n2->dn k jd q j->w.rowIs (s q j) 9 n (λ_=>.string z)/\B<=s q j
 vinj:∀q j q' j',q<k->j<n2->dn k jd q j->q' < k->j' < n2->dn k jd q' j'->s q j=s q' j'->q=q'/\j=j'
 base:B<=g
def Cj{h:Nat}{t i:TypeId}{m:Nat}{F G:Nat->Value}(k:w.rowIs g t n F)(l:w.rowIs h i m G)(o:t≠i):g≠h:=λe=>by
 obtain⟨c,d,_⟩:=k;obtain⟨p,j,_⟩:=l;rw[e,j]at d;simp at d;exact o d.2.symm
namespace TQ
variable{w w':World}{B g n1 n2 n k jd:Nat}{r:Nat->Nat}{s:Nat->Nat->Nat}{z:ByteArray}
theorem new(h:TQ w B g n1 n2 n k jd r s z)(hf:Fr (λ_=>False) w w'):TQ w' B g n1 n2 n k jd r s z :=
 ⟨hf.row h.top (λe=>e),λq c=>⟨hf.row (h.mid q c).1 (λe=>e),(h.mid q c).2⟩,h.rinj,λq j c d hd=>⟨hf.row (h.vec q j c d hd).1 (λe=>e),(h.vec q j c d hd).2⟩,h.vinj,h.base⟩
theorem made(w:World)(d:B<=w.heap.size)(n1 n2 n:Nat)(z:ByteArray):TQ (w.alloc (.cells (madeCells #[.slice none 0 0] n1) 96)) B w.heap.size n1 n2 n 0 n2 (λ_=>0) (λ_ _=>0) z :=
 ⟨(World.rowIs_made w _ n1 _).congr (λq _=>by rw[ifn (Nat.not_lt_zero _)]),λq c=>absurd c (Nat.not_lt_zero _),λq _ c=>absurd c (Nat.not_lt_zero _),λq _ c=>absurd c (Nat.not_lt_zero _),λq _ _ _ c=>absurd c (Nat.not_lt_zero _),d⟩
theorem addRow(h:TQ w B g n1 n2 n k n2 r s z)(N:B<=w.heap.size):
  TQ ((w.setCell (Ad g k) (.slice (some (Ad w.heap.size 0)) n2 n2)).alloc (.cells (madeCells #[.slice none 0 0] n2) 100)) B g n1 n2 n (k+1) 0 (λq=>if q=k then w.heap.size else r q) s z:=by
 have H:=h.top.lt;rw[<-World.setCell_alloc_past _ _ _ _ H];have J:=World.rowIs_made w (.slice none 0 0) n2 100;have A:=h.new<|Fr.alloc w (.cells (madeCells #[.slice none 0 0] n2) 100);generalize w.alloc (.cells (madeCells #[.slice none 0 0] n2) 100)=wa at J A;have hf:Fr (λq=>q=g) wa (wa.setCell (Ad g k) (.slice (some (Ad w.heap.size 0)) n2 n2)):=(Fr.refl (λq=>q=g) _).set (p:=(Ad g k)) (.inl rfl) _;have hd:∀q j,q<k->j<n2->(dn (k+1) 0 q j↔dn k n2 q j):=λq j E i=>by unfold dn;omega
 refine⟨(A.top.set k _).congr (λq E=>?_),λq E=>?_,λq o E I C=>?_,λq j E i c=>?_,λq j o K E i c I D l C=>?_,h.base⟩
 ·by_cases e:q=k
  ·subst e;simp
  simp only[ifn e];by_cases u:q<k
  ·rw[ifp u,ifp (by omega)]
  rw[ifn u,ifn (by omega)]
 ·by_cases e:q=k
  ·simp only[ifp e];refine⟨hf.row (J.congr (λj i=>?_)) (by omega),N⟩;rw[ifn (by unfold dn;omega)]
  simp only[ifn e];refine⟨hf.row ((A.mid q (by omega)).1.congr (λj i=>?_)) (Cj (A.mid q (by omega)).1 A.top (by decide)),(h.mid q (by omega)).2⟩;by_cases u:dn k n2 q j
  ·rw[ifp u,ifp ((hd q j (by omega) i).2 u)]
  rw[ifn u,ifn (λL=>u ((hd q j (by omega) i).1 L))]
 ·by_cases e:q=k
  ·by_cases F:o=k
   ·omega
   simp only[ifp e,ifn F]at C;have:=(h.mid o (by omega)).1.lt;omega
  by_cases F:o=k
  ·simp only[ifn e,ifp F]at C;have:=(h.mid q (by omega)).1.lt;omega
  simp only[ifn e,ifn F]at C;exact h.rinj q o (by omega) (by omega) C
 ·have d:q<k:=by unfold dn at c;omega
  have G:=A.vec q j d i ((hd q j d i).1 c);exact⟨hf.row G.1 (Cj G.1 A.top (by decide)),G.2⟩
 have d:q<k:=by unfold dn at c;omega
 have m:o<k:=by unfold dn at l;omega
 exact h.vinj q j o K d i ((hd q j d i).1 c) m D ((hd o K m D).1 l) C
theorem addVec(h:TQ w B g n1 n2 n (k+1) jd r s z)(O:jd<n2){H:World}(hf:Fr (λ_=>False) w H)(P:H.rowIs v 9 n (λ_=>.string z))(R:B<=w.heap.size)(Q:w.heap.size<=v):
  TQ (H.setCell (Ad (r k) jd) (.slice (some (Ad v 0)) n n)) B g n1 n2 n (k+1) (jd+1) r (λa b=>if a=k/\b=jd then v else s a b) z:=by
 have A:=h.new hf;have o:Fr (λc=>c=r k) H (H.setCell (Ad (r k) jd) (.slice (some (Ad v 0)) n n)):=(Fr.refl (λc=>c=r k) H).set (p:=(Ad (r k) jd)) (.inl rfl) _;have hd:∀q j,q<k+1->¬(q=k/\j=jd)->(dn (k+1) (jd+1) q j↔dn (k+1) jd q j):=λq j d S=>by unfold dn;omega
 have D:∀q j,q<k+1->j<n2->dn (k+1) jd q j->s q j<w.heap.size:=λq j d O hd=>(h.vec q j d O hd).1.lt;refine⟨o.row A.top (λe=>Cj A.top (A.mid k (by omega)).1 (by decide) e),λq d=>?_,h.rinj,λq j d i m=>?_,λq j G F d i m u J C K=>?_,h.base⟩
 ·by_cases e:q=k
  ·subst e;refine⟨((A.mid q d).1.set jd _).congr (λj i=>?_),(h.mid q d).2⟩;by_cases I:j=jd
   ·rw[ifp I,ifp (by unfold dn;omega),ifp ⟨rfl,I⟩]
   rw[ifn I,ifn (show ¬(q=q/\j=jd) by omega)];by_cases l:dn (q+1) jd q j
   ·rw[ifp l,ifp ((hd q j d (by omega)).2 l)]
   rw[ifn l,ifn (λL=>l ((hd q j d (by omega)).1 L))]
  refine⟨(o.row (A.mid q d).1 (λI=>e (h.rinj q k d (by omega) I))).congr (λj i=>?_),(h.mid q d).2⟩;rw[ifn (show ¬(q=k/\j=jd) by omega)];by_cases l:dn (k+1) jd q j
  ·rw[ifp l,ifp ((hd q j d (by omega)).2 l)]
  rw[ifn l,ifn (λL=>l ((hd q j d (by omega)).1 L))]
 ·by_cases e:q=k/\j=jd
  ·simp only[ifp e];exact⟨o.row P (Cj P (A.mid k (by omega)).1 (by decide)),by omega⟩
  simp only[ifn e];have N:=A.vec q j d i ((hd q j d e).1 m);exact⟨o.row N.1 (Cj N.1 (A.mid k (by omega)).1 (by decide)),N.2⟩
 by_cases e:q=k/\j=jd
 ·by_cases E:G=k/\F=jd
  ·omega
  simp only[ifp e,ifn E]at K;have:=D G F u J ((hd G F u E).1 C);omega
 by_cases E:G=k/\F=jd
 ·simp only[ifn e,ifp E]at K;have:=D q j d i ((hd q j d e).1 m);omega
 simp only[ifn e,ifn E]at K;exact h.vinj q j G F d i ((hd q j d e).1 m) u J ((hd G F u E).1 C) K
end TQ
structure TW(w:World)(B g n1 n2 n:Nat)(r:Nat->Nat)(s:Nat->Nat->Nat)(X:TbR):Prop where
 top:w.rowIs g 96 n1 (λq=>.slice (some (Ad (r q) 0)) n2 n2)
 mid:∀q,q<n1->w.rowIs (r q) 100 n2 (λj=>.slice (some (Ad (s q j) 0)) n n)/\B<=r q
 rinj:∀q q',q<n1->q' < n1->r q=r q'->q=q'
 vec:∀q j,q<n1->j<n2->w.rowIs (s q j) 9 n (λp=>.string (X q j p))
theorem TQ.whole{B n1 n2:Nat}{r:Nat->Nat}{s:Nat->Nat->Nat}{k:Int}(h:TQ w B g n1 n2 n n1 n2 r s (Ak k)):TW w B g n1 n2 n r s (λ_ _=>zerR k) :=
 ⟨h.top.congr (λq c=>by rw[ifp c]),λq c=>⟨(h.mid q c).1.congr (λj d=>by rw[ifp (by unfold dn;omega)]),(h.mid q c).2⟩,h.rinj,λq j c d=>(h.vec q j c d (by unfold dn;omega)).1⟩
theorem TQ.lead{w:World}{B g n1 n2:Nat}{r:Nat->Nat}{s:Nat->Nat->Nat}{D:MD}{st:Nat}(h:TQ w B g n1 n2 D.n n1 n2 r s (Ak D.kind))(C:D.start=(st:Int))(m:0<n1)(o:0<n2):TW (w.setCell (Ad (s 0 0) st) (.string D.lead)) B g n1 n2 D.n r s (X0R D)/\B<=s 0 0:=by
 have d:=h.whole;have u:=d.vec 0 0 m o;have i:Fr (λc=>c=s 0 0) w (w.setCell (Ad (s 0 0) st) (.string D.lead)):=(Fr.refl (λc=>c=s 0 0) w).set (p:=(Ad (s 0 0) st)) (.inl rfl) _;refine⟨⟨i.row d.top (λe=>Cj d.top u (by decide) e),λq l=>⟨i.row (d.mid q l).1 (λe=>Cj (d.mid q l).1 u (by decide) e),(d.mid q l).2⟩,d.rinj,λq j l z=>?_⟩,(h.vec 0 0 m o (by unfold dn;omega)).2⟩;by_cases e:q=0/\j=0
 ·obtain⟨rfl,rfl⟩:=e;refine(u.set st _).congr (λp _=>?_);have A:X0R D 0 0 p=updS (zerR D.kind) st D.lead p:=by
   unfold X0R;rw[ifp (show (0:Nat)=0/\(0:Nat)=0 from ⟨rfl,rfl⟩),show D.start.toNat=st by omega]
  show _=Value.string (X0R D 0 0 p);rw[A];unfold updS;by_cases k:p=st
  ·rw[ifp k,ifp k]
  rw[ifn k,ifn k]
 refine(i.row (d.vec q j l z) (λk=>e (h.vinj q j 0 0 l z (by unfold dn;omega) m o (by unfold dn;omega) k))).congr (λp _=>?_);show _=Value.string ((if q=0/\j=0 then updS (zerR D.kind) D.start.toNat D.lead else zerR D.kind) p)
 rw[ifn e]
namespace TW
variable{w w':World}{B g n1 n2 n:Nat}{r:Nat->Nat}{s:Nat->Nat->Nat}{X:TbR}
theorem new(h:TW w B g n1 n2 n r s X)(hf:Fr (λ_=>False) w w'):TW w' B g n1 n2 n r s X :=
 ⟨hf.row h.top (λe=>e),λq c=>⟨hf.row (h.mid q c).1 (λe=>e),(h.mid q c).2⟩,h.rinj,λq j c d=>hf.row (h.vec q j c d) (λe=>e)⟩
theorem put(h:TW w B g n1 n2 n r s X){q:Nat}{Z:Nat->ByteArray}(l:q<n1)(o:j<n2)(m:w.rowIs v 9 n (λp=>.string (Z p))):
  TW (w.setCell (Ad (r q) j) (.slice (some (Ad v 0)) n n)) B g n1 n2 n r (λa b=>if a=q/\b=j then v else s a b) (updT X q j Z):=by
 have d:Fr (λc=>c=r q) w (w.setCell (Ad (r q) j) (.slice (some (Ad v 0)) n n)):=(Fr.refl (λc=>c=r q) w).set (p:=(Ad (r q) j)) (.inl rfl) _;refine⟨d.row h.top (λe=>Cj h.top (h.mid q l).1 (by decide) e),λa i=>?_,h.rinj,λa b i hb=>?_⟩
 ·by_cases e:a=q
  ·subst e;refine⟨((h.mid a i).1.set j _).congr (λb hb=>?_),(h.mid a i).2⟩;by_cases k:b=j
   ·rw[ifp k,ifp ⟨rfl,k⟩]
   rw[ifn k,ifn (show ¬(a=a/\b=j) by omega)]
  refine⟨(d.row (h.mid a i).1 (λk=>e (h.rinj a q i l k))).congr (λb hb=>?_),(h.mid a i).2⟩;rw[ifn (show ¬(a=q/\b=j) by omega)]
 by_cases e:a=q/\b=j
 ·simp only[ifp e];refine(d.row m (Cj m (h.mid q l).1 (by decide))).congr (λp _=>?_);unfold updT;rw[ifp e]
 simp only[ifn e];refine(d.row (h.vec a b i hb) (Cj (h.vec a b i hb) (h.mid q l).1 (by decide))).congr (λp _=>?_);unfold updT;rw[ifn e]
end TW
end
end Go.Proofs.YtpldocnhbdlgfaaGreatDoor
