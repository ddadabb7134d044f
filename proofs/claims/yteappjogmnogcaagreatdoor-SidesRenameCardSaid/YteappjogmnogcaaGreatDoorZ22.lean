/- Parts. -/
import Derived.Test.YteappjogmnogcaaGreatDoorZ17
import Derived.Test.YteappjogmnogcaaGreatDoorZ18
import Derived.Test.YteappjogmnogcaaGreatDoorZ16
namespace Go.Proofs.YteappjogmnogcaaGreatDoor
set_option maxRecDepth 100000
set_option linter.all false
set_option maxHeartbeats 16000000
open Go Tryz
section
open Go.RowKit Go.Deep
def Zs{k:Int}{n Z gb:Nat}{a b:Nat->ByteArray}(w:World)(hn:n<=3000)(o:w.rowIs Z 9 n (λj=>.string (a j)))(u:w.rowIs gb 9 n (λj=>.string (b j)))(ha:∀j,smS (a j))(hb:∀j,smS (b j)):
  Calls prog 56 #[.int .i64 k,.slice (some (Ad Z 0)) n n,.slice (some (Ad gb 0)) n n] w (VerE n (sumR k a b n) w):=by
 have b5:=run_make_row' (P:=prog) 79 9 (.string ⟨#[]⟩) 16 underlying79 FX rfl .i64 .i64 n (by omega) (by omega);obtain⟨w1,L⟩:=exq<|w.alloc (.cells (madeCells #[.string ⟨#[]⟩] n) 9);obtain⟨g,hg⟩:=exq<|w.heap.size;have I:Fr (λ_=>False) w w1:=by rw[L];exact Fr.alloc _ _
 have O:w1.rowIs g 9 n (λj=>.string ((sumR k a b 0).1 j)):=by rw[L,hg];exact World.rowIs_made w _ _ _
 have i:=qh O;clear O;have B:=qh<|I.row o (λe=>e);have C:=qh<|I.row u (λe=>e);have a1:=qh<|show Below w.heap.size w w1 from I.below nlr (λ_ e=>e.elim);have a3:=qh (show w.heap.size<=g by omega);have b1:=qh (show Z≠g by have:=o.lt;omega);have b2:=qh (show gb≠g by have:=u.lt;omega);replace ha:=qh ha;replace hb:=qh hb;clear o u I
 go_enter func56,ntmps56
 go_wp2_with fail
 rw[<-L,<-hg];clear L hg b5
 go_loopw [9] (λv9 wr=>∃q:Nat,q<=n/\v9=.int .i64 (q:Int)/\(sumR k a b q).2=0/\wr.rowIs g 9 n (λj=>.string ((sumR k a b q).1 j))/\wr.rowIs Z 9 n (λj=>.string (a j))/\wr.rowIs gb 9 n (λj=>.string (b j))/\Below w.heap.size w wr) (λv9 _=>n-(intOf v9).toNat)
 case atStart=>exact⟨0,Nat.zero_le _,rfl,rfl,i.o,B.o,C.o,a1.o⟩
 obtain⟨q,hq,rfl,he,a7,o,u,D⟩:=hrel;clear i B C a1;have HE:=qh he;clear he;have i:=qh a7;clear a7;have B:=qh o;clear o;have C:=qh u;clear u;replace D:=qh D;by_cases X:q<n
 ·have c7:(q:Int)<(n:Int):=by omega
  have b6:(0:Int)<=(q:Int):=by omega
  obtain⟨R,F⟩:=exq<|a q;obtain⟨S,G⟩:=exq<|b q;obtain⟨s,hs⟩:=exq<|sumR k a b q;obtain⟨z,hz⟩:=exq<|Am k R S;have a8:smS R:=by rw[F];exact ha.o q
  have a9:smS S:=by rw[G];exact hb.o q
  have H:∀W,Fr (λ_=>False) wr W->(λwk:World=>wk.cell? (Ad Z q)=some (.string R)/\wk.cell? (Ad gb q)=some (.string S)) W:=λW hf=>⟨by rw[F];exact(hf.row B.o (λe=>e)).cell X,by rw[G];exact(hf.row C.o (λe=>e)).cell X⟩;replace H:=qh H;rw[<-hs]at i HE;have J:sumR k a b (q+1)=if z.2≠0 then (s.1,z.2) else (updS s.1 q z.1,0):=by
   show (if (sumR k a b q).2≠0 then _ else _)=_
   rw[<-hs,ifn (by rw[HE.o];simp),hz,F,G]
  replace J:=qh J;clear hs F G;obtain⟨wd,Y⟩:=exq<|wr.drew;have a2:=qh (show Fr (λ_=>False) wr wd by rw[Y];exact Fr.of_below ((Below.refl wr.heap.size wr).drew));have hp:=Ij k R S wd a8 a9;rw[<-hz]at hp;have HP:=qh hp;clear hp hz a8 a9
  go_wp2_with fail
  have d:=H.o wd a2.o;refine Au (λwk:World=>wk.cell? (Ad Z q)=some (.string R)/\wk.cell? (Ad gb q)=some (.string S)) 14 (by kernel_rfl) ?_;rw[<-Y];clear Y;refine Aa.tm 0 d ?_;refine Aa.tm 1 d ?_;refine Aa.tm 2 d ?_;refine Aa.tm 3 d ?_;refine Aa.tm 4 d ?_;refine Aa.tm 5 d ?_;refine Aa.tm 6 d ?_;refine Aa.tm 7 d ?_;refine Aa.tm 8 d ?_
  try simp only[Act.put,tryL]
  refine Aa.on 9 λK N=>?_;go_simp;refine HP.o.mono ?_;rintro rr w3⟨rfl,a5⟩;have A:=qh<|a2.o.trans (Fr.of_below a5);have l:=H.o w3 A.o;clear a5 d HP;refine N.out _ _ (.inr l) ?_;clear N K
  try simp only[Act.put,tryL]
  refine Aa.tm 10 l ?_;refine Aa.tm 11 l ?_;refine Aa.tm 12 l ?_
  try simp only[Act.put,tryL]
  refine Aa.on 13 λK N=>?_;go_simp;refine N.out _ _ (.inr l) ?_;clear N K
  try simp only[Act.put,tryL]
  refine Aa.on 14 λK N=>?_;go_simp;refine N.out _ _ (.inl rfl) (Aa.dn ?_);clear N K l;have E:=A.o.row i.o (λe=>e);have c0:=E.cell X;have f0:=E.frozen q;replace E:=qh E;have Q:=qh<|D.o.trans (A.o.below D.o.size (λ_ e=>e.elim));by_cases h1:z.2=0
  ·have b4:(z.2:Int)=0:=by omega
   have a4:=qh<|J.o.trans (ifn (by omega));go_wp2;go_roundw
   case rel =>
    have T:Fr (λc=>c=g) w3 (w3.setCell (Ad g q) (.string z.1)):=(Fr.refl (λc=>c=g) w3).set (p:=(Ad g q)) (.inl rfl) _;refine⟨q+1,by omega,by go_num,by rw[a4.o],?_,T.row (A.o.row B.o (λe=>e)) b1.o,T.row (A.o.row C.o (λe=>e)) b2.o,Q.o.trans (T.below Q.o.size (λc e=>by rw[e];exact a3.o))⟩;rw[a4.o];refine(E.o.set q _).congr (λj _=>?_);show _=Value.string (updS s.1 q z.1 j);unfold updS;by_cases e:j=q
    ·rw[ifp e,ifp e]
    rw[ifn e,ifn e]
   simp[intOf];omega
  have b4:¬((z.2:Int)=0):=by omega
  have b7:((z.2:Int)==0)=false:=by simp;omega
  have b8:decide ((z.2:Int)=0)=false:=by simp;omega
  have U:sumR k a b (q+1)=(s.1,z.2):=J.o.trans<|ifp h1;have h:sumR k a b n=(s.1,z.2):=by
   have h2:=Lm (k:=k) (a:=a) (b:=b) (m:=q+1) (by rw[U];exact h1) (n-(q+1));rw[show q+1+(n-(q+1))=n by omega,U]at h2;exact h2
  replace h:=qh h;clear U;replace h1:=qh h1;clear c0 f0;go_wp2;go_ret2;exact⟨Q.o,.inr ⟨by rw[h.o];exact h1.o,by rw[h.o];rfl⟩⟩
 have a6:q=n:=by omega
 have b9:¬((q:Int)<(n:Int)):=by omega
 have he:=HE.o;have hr:=i.o;rw[a6]at he hr;have b0:=qh he;have b3:=qh hr;clear he hr a6;go_wp2;go_ret2;exact⟨D.o,.inl ⟨b0.o,g,rfl,a3.o,b3.o⟩⟩
def endR(D:MD)(v:Nat->ByteArray):ByteArray × Nat:=if (finR D v D.n).2≠0 then (⟨#[]⟩,(finR D v D.n).2) else ((finR D v D.n).1 0,0)
def Nt{D:MD}{sv:Value}{v:Nat->ByteArray}{vb:Nat}(w:World)(hV:VM D)(hD:StS none w sv D)(b2:w.rowIs vb 9 D.n (λj=>.string (v j)))(b3:∀j,smS (v j))(b0:∀i,smS (D.fin i)):
  Calls prog 57 #[.agg #[.int .i64 D.kind,.int .i64 D.start,.string D.lead,sv],.slice (some (Ad vb 0)) D.n D.n] w (PairEnd (endR D v) w):=by
 obtain⟨a,cp,b,Q,A,C,BB,O,rfl,ha,hc,hm,hb,L⟩:=hD.open;unfold maxLen at hm;obtain⟨R,E⟩:=exq<|w.alloc (.cells #[.int .i64 D.kind,.int .i64 D.start,.string D.lead,.slice a D.n cp] 24);obtain⟨P,Z⟩:=exq<|w.heap.size;have e5:R.heap.size=w.heap.size+1:=by rw[E];simp
 have a8:Fr (λ_=>False) w R:=by rw[E];exact Fr.alloc _ _
 have B:BxM R P D (.slice a D.n cp):=by rw[E,Z];exact BxM.new w D _
 have b6:=qh<|show Below w.heap.size w R from a8.below nlr (λ_ e=>e.elim);have u:=qh<|a8.row b2 (λe=>e);have e2:=qh b2.lt;have g:=qh B;have d9:=DJ D.kind R;have c8:=qh d9;clear d9;replace ha:=qh ha;replace hb:=qh hb;replace L:=qh L;clear hD;replace b3:=qh b3;replace b0:=qh b0;have e0:=qh (show P<R.heap.size by omega);have a6:=qh (show w.heap.size<=R.heap.size by omega);have m0:=cellOf B 0 rfl;have e9:D.n<=3000:=hV.n2;clear b2 a8 B hc e5 hV;have l0:=m0;rw[E,Z]at l0
 go_enter func57,ntmps57
 go_wp2_with fail
 rw[<-E];clear E l0 m0;refine c8.o.mono ?_;rintro rr w2⟨rfl,H⟩;have d0:Fr (λ_=>False) R w2:=Fr.of_below H;obtain⟨w3,a3⟩:=exq<|w2.alloc (.cells #[.string (Af D.kind)] 9);obtain⟨N,b1⟩:=exq<|w2.heap.size;have X:Fr (λ_=>False) R w3:=by rw[a3];exact d0.trans<|Fr.alloc _ _
 have J:w3.rowIs N 9 1 (λj=>.string ((finR D v 0).1 j)):=by
  refine⟨#[.string (Af D.kind)],by rw[a3,b1];exact han w2 _,rfl,λi hi=>?_⟩;obtain rfl:i=0:=by omega
  rfl
 have HI:=qh (show BxM w3 P D (.slice a D.n cp)/\w3.rowIs vb 9 D.n (λj=>.string (v j))/\w3.rowIs N 9 1 (λj=>.string ((finR D v 0).1 j))/\Below w.heap.size w w3 from
  ⟨g.o.kept X (λe=>e),X.row u.o (λe=>e),J,b6.o.trans (X.below a6.o (λ_ e=>e.elim))⟩)
 have b9:=qh (show w.heap.size<=N by have:=H.size;have:=a6.o;omega);have a5:=qh (show P≠N by have:=H.size;have:=e0.o;omega);have c7:=qh (show vb≠N by have:=H.size;have:=e2.o;have:=a6.o;omega);clear H d0 X J c8 b6 g u
 go_wp2_with fail
 rw[<-a3,<-b1,<-Z];clear a3 b1 Z
 go_loopw [7] (λv7 wr=>∃q:Nat,q<=D.n/\v7=.int .i64 (q:Int)/\(finR D v q).2=0/\BxM wr P D (.slice a D.n cp)/\wr.rowIs vb 9 D.n (λj=>.string (v j))/\wr.rowIs N 9 1 (λj=>.string ((finR D v q).1 j))/\Below w.heap.size w wr) (λv7 _=>D.n-(intOf v7).toNat)
 case atStart=>exact⟨0,Nat.zero_le _,rfl,rfl,HI.o⟩
 obtain⟨q,hq,rfl,he,B,d5,J,o⟩:=hrel;clear HI;replace he:=qh he;have g:=qh B;clear B;have u:=qh d5;clear d5;have T:=qh J;clear J;replace o:=qh o;have m3:=cellOf g.o 3 rfl;by_cases d3:q<D.n
 ·have f0:(q:Int)<(D.n:Int):=by omega
  have e7:(0:Int)<=(q:Int):=by omega
  obtain rfl:=ha.o (by omega);have e4:=(hb.o (by omega)).1;obtain⟨k1,_⟩:=L.o q d3;obtain⟨F,Y⟩:=exq<|D.fin q;rw[<-Y]at k1;have c1:=(o.o.cell (p:=(Ad b (Q+q*2))) e4).trans k1;obtain⟨s,hs⟩:=exq<|finR D v q;have d8:∀j,smS (s.1 j):=by rw[hs];exact Ns q
  rw[<-hs]at T he;have a1:finR D v (q+1)=if F=⟨#[]⟩ then s else addR D.kind s.1 0 (v q) F:=by
   show (if (finR D v q).2≠0 then _ else _)=_
   rw[<-hs,ifn (by rw[he.o];simp),Y]
  replace a1:=qh a1;clear hs;have d6:smS F:=by rw[Y];exact b0.o q
  clear Y k1;cases hO:(F.toList==[])
  ·have I:F≠⟨#[]⟩:=λe=>by rw[e]at hO;simp at hO
   have h:=qh<|a1.o.trans (ifn I);clear I;obtain⟨vq,a2⟩:=exq<|v q;obtain⟨z,hz⟩:=exq<|addR D.kind s.1 0 vq F;rw[<-a2,<-hz]at h;have d7:smS vq:=by rw[a2];exact b3.o q
   have U:∀W,Fr (λc=>c=N) wr W->(λwk:World=>wk.cell? (Ad P 0)=some (.int .i64 D.kind)/\wk.cell? (Ad P 3)=some (.slice (some (Ad b Q)) D.n cp)/\wk.cell? (Ad vb q)=some (.string vq)/\wk.cell? (Ad b (Q+q*2))=some (.string F)) W:=λW hf =>
    ⟨cellOf (g.o.kept hf a5.o) 0 rfl,cellOf (g.o.kept hf a5.o) 3 rfl,by rw[a2];exact(hf.row u.o c7.o).cell d3,hf.cell c1 (λe=>by have:b=N:=e;have:=b9.o;omega)⟩
   replace U:=qh U;obtain⟨wd,b4⟩:=exq<|wr.drew;have a9:Fr (λ_=>False) wr wd:=by rw[b4];exact Fr.of_below<|(Below.refl wr.heap.size wr).drew
   have a7:=FH (k:=D.kind) (t:=0) (a:=vq) (b:=F) wd (a9.row T.o (λe=>e)) (by omega) (by omega) (d8 0) d7 d6;rw[<-hz]at a7;have b5:=qh a7;have b8:=qh<|a9.mono (C':=λc=>c=N) (λ_ _ e=>e.elim);clear a7 a9 hz a2 d7 d8 d6
   go_wp2_with fail
   have d:=U.o wd b8.o;refine Au (λwk:World=>wk.cell? (Ad P 0)=some (.int .i64 D.kind)/\wk.cell? (Ad P 3)=some (.slice (some (Ad b Q)) D.n cp)/\wk.cell? (Ad vb q)=some (.string vq)/\wk.cell? (Ad b (Q+q*2))=some (.string F)) 14 (by kernel_rfl) ?_;rw[<-b4];clear b4 c1 m3;refine Aa.tm 0 d ?_;refine Aa.tm 1 d ?_;refine Aa.tm 2 d ?_;refine Aa.tm 3 d ?_;refine Aa.tm 4 d ?_;refine Aa.tm 5 d ?_;refine Aa.tm 6 d ?_;refine Aa.tm 7 d ?_;refine Aa.tm 8 d ?_;refine Aa.tm 9 d ?_;refine Aa.tm 10 d ?_;refine Aa.tm 11 d ?_;refine Aa.tm 12 d ?_
   try simp only[Act.put,tryL]
   refine Aa.on 13 λK hK=>?_;go_simp;refine b5.o.mono ?_;rintro rr w5⟨rfl,d4,d1⟩;have S:=qh<|b8.o.trans d1;have e1:=qh d4;have c9:=U.o w5 S.o;clear d4 d1 d b5;refine hK.out _ _ (.inr c9) ?_;clear hK K
   try simp only[Act.put,tryL]
   refine Aa.on 14 λK hK=>?_;go_simp;refine hK.out _ _ (.inl rfl) (Aa.dn ?_);clear hK K c9;have b7:=qh (o.o.trans (S.o.below o.o.size (λc e=>by rw[e];exact b9.o)));by_cases a4:z.2=0
   ·have e6:(z.2:Int)=0:=by omega
    have e3:=qh a4;clear a4;go_wp2;go_roundw
    case rel=>exact⟨q+1,by omega,by go_num,by rw[h.o];exact e3.o,g.o.kept S.o a5.o,S.o.row u.o c7.o,by rw[h.o];exact e1.o,b7.o⟩
    simp[intOf];omega
   have e6:¬((z.2:Int)=0):=by omega
   have f1:((z.2:Int)==0)=false:=by simp;omega
   have f2:decide ((z.2:Int)=0)=false:=by simp;omega
   have l:endR D v=(⟨#[]⟩,z.2):=by
    have h2:=JF (D:=D) (v:=v) (m:=q+1) (by rw[h.o];exact a4) (D.n-(q+1));rw[show q+1+(D.n-(q+1))=D.n by omega,h.o]at h2;unfold endR;rw[h2,ifp a4]
   have G:=qh l;clear l;go_wp2;go_ret2;exact⟨by rw[G.o];rfl,b7.o⟩
  have I:F=⟨#[]⟩:=Ec hO;have h:=qh<|a1.o.trans (ifp I);clear I;go_wp2;go_roundw
  case rel=>exact⟨q+1,by omega,by go_num,by rw[h.o];exact he.o,g.o,u.o,by rw[h.o];exact T.o,o.o⟩
  simp[intOf];omega
 have d2:q=D.n:=by omega
 have e8:¬((q:Int)<(D.n:Int)):=by omega
 have c0:=T.o.cell (i:=0) (by omega);have l:endR D v=((finR D v q).1 0,0):=by unfold endR;rw[d2]at he ⊢;rw[ifn (by rw[he.o];simp)]
 have G:=qh l;clear l d2;go_wp2;go_ret2;exact⟨by rw[G.o];rfl,o.o⟩
end
section
open Go.RowKit Go.Deep
variable{g i j n v:Nat}{w:World}
abbrev TbR:=Nat->Nat->Nat->ByteArray
def updT(X:TbR)(a b:Nat)(v:Nat->ByteArray):TbR:=λi j=>if i=a/\j=b then v else X i j
def X0R(D:MD):TbR:=λi j=>if i=0/\j=0 then updS (zerR D.kind) D.start.toNat D.lead else zerR D.kind
def kR(D:MD)(na:Nat)(x:Nat->Int)(nb:Nat)(y:Nat->Int)(i j u v:Nat)(s:TbR × Nat):TbR × Nat :=
 if s.2≠0\/na<i+u\/nb<j+v then s
 else if (Ak D (if u=1 then x i else 0) (if v=1 then y j else 0) (s.1 i j) D.n (zerR D.kind,0)).2≠0 then (s.1,(Ak D (if u=1 then x i else 0) (if v=1 then y j else 0) (s.1 i j) D.n (zerR D.kind,0)).2)
 else if (sumR D.kind (s.1 (i+u) (j+v)) (Ak D (if u=1 then x i else 0) (if v=1 then y j else 0) (s.1 i j) D.n (zerR D.kind,0)).1 D.n).2≠0 then (s.1,(sumR D.kind (s.1 (i+u) (j+v)) (Ak D (if u=1 then x i else 0) (if v=1 then y j else 0) (s.1 i j) D.n (zerR D.kind,0)).1 D.n).2)
 else (updT s.1 (i+u) (j+v) (sumR D.kind (s.1 (i+u) (j+v)) (Ak D (if u=1 then x i else 0) (if v=1 then y j else 0) (s.1 i j) D.n (zerR D.kind,0)).1 D.n).1,0)
def mvR(D:MD)(na:Nat)(x:Nat->Int)(nb:Nat)(y:Nat->Int)(i j:Nat):Nat->TbR × Nat->TbR × Nat
 |0,s=>s
 |1,s=>s
 |k+1,s=>kR D na x nb y i j (k % 2) (k / 2) (mvR D na x nb y i j k s)
section
variable{D:MD}{na:Nat}{x:Nat->Int}{nb:Nat}{y:Nat->Int}
def VA{u:Nat}{s:TbR × Nat}(h:s.2≠0):kR D na x nb y i j u v s=s:=ifp<|.inl h
def Wx{k:Nat}{s:TbR × Nat}(c:0<k):mvR D na x nb y i j (k+1) s=kR D na x nb y i j (k % 2) (k / 2) (mvR D na x nb y i j k s):=by
 cases k with
 |zero=>omega
 |succ k=>rfl
theorem Hy{i j k:Nat}{s:TbR × Nat}(h:(mvR D na x nb y i j k s).2≠0):∀d,mvR D na x nb y i j (k+d) s=mvR D na x nb y i j k s
 |0=>rfl
 |d+1=>by
  by_cases hk:0<k+d
  ·rw[<-Nat.add_assoc,Wx hk,Hy h d,VA h]
  have:k=0/\d=0:=by omega
  rw[this.1,this.2];rfl
end
def smT(X:TbR):Prop:=∀i j p,smS (X i j p)
def smT.upd{X:TbR}(h:smT X){a b:Nat}{v:Nat->ByteArray}(c:∀p,smS (v p)):smT (updT X a b v):=λi j p=>by
 unfold updT;split
 ·exact c p
 exact h i j p
def RP{D:MD}(h:smS D.lead):smT (X0R D):=λi j p=>by
 unfold X0R;split
 ·exact GJ (λ_=>Dk _) h p
 exact Dk _
def dn(k jd q j:Nat):Prop:=q+1<k\/(q+1=k/\j<jd)
instance (k jd q j:Nat):Decidable (dn k jd q j):=inferInstanceAs<|Decidable (_\/_)
structure TQ(w:World)(B g n1 n2 n k jd:Nat)(r:Nat->Nat)(s:Nat->Nat->Nat)(z:ByteArray):Prop where
 top:w.rowIs g 75 n1 (λq=>if q<k then .slice (some (Ad (r q) 0)) n2 n2 else .slice none 0 0)
 mid:∀q,q<k->w.rowIs (r q) 79 n2 (λj=>if dn k jd q j then .slice (some (Ad (s q j) 0)) n n else .slice none 0 0)/\B<=r q
 rinj:∀q q',q<k->q' < k->r q=r q'->q=q'
 vec:∀q j,q<k->j<n2->dn k jd q j->w.rowIs (s q j) 9 n (λ_=>.string z)/\B<=s q j
 vinj:∀q j q' j',q<k->j<n2->dn k jd q j->q' < k->j' < n2->dn k jd q' j'->s q j=s q' j'->q=q'/\j=j'
 base:B<=g
def Cp{h:Nat}{t i:TypeId}{m:Nat}{F G:Nat->Value}(k:w.rowIs g t n F)(l:w.rowIs h i m G)(o:t≠i):g≠h:=λe=>by
 obtain⟨c,d,_⟩:=k;obtain⟨p,j,_⟩:=l;rw[e,j]at d;simp at d;exact o d.2.symm
namespace TQ
variable{w w':World}{B g n1 n2 n k jd:Nat}{r:Nat->Nat}{s:Nat->Nat->Nat}{z:ByteArray}
theorem new(h:TQ w B g n1 n2 n k jd r s z)(hf:Fr (λ_=>False) w w'):TQ w' B g n1 n2 n k jd r s z :=
 ⟨hf.row h.top (λe=>e),λq c=>⟨hf.row (h.mid q c).1 (λe=>e),(h.mid q c).2⟩,h.rinj,λq j c i d=>⟨hf.row (h.vec q j c i d).1 (λe=>e),(h.vec q j c i d).2⟩,h.vinj,h.base⟩
theorem made(w:World)(d:B<=w.heap.size)(n1 n2 n:Nat)(z:ByteArray):TQ (w.alloc (.cells (madeCells #[.slice none 0 0] n1) 75)) B w.heap.size n1 n2 n 0 n2 (λ_=>0) (λ_ _=>0) z :=
 ⟨(World.rowIs_made w _ n1 _).congr (λq _=>by rw[ifn (Nat.not_lt_zero _)]),λq c=>absurd c (Nat.not_lt_zero _),λq _ c=>absurd c (Nat.not_lt_zero _),λq _ c=>absurd c (Nat.not_lt_zero _),λq _ _ _ c=>absurd c (Nat.not_lt_zero _),d⟩
theorem addRow(h:TQ w B g n1 n2 n k n2 r s z)(O:B<=w.heap.size):
  TQ ((w.setCell (Ad g k) (.slice (some (Ad w.heap.size 0)) n2 n2)).alloc (.cells (madeCells #[.slice none 0 0] n2) 79)) B g n1 n2 n (k+1) 0 (λq=>if q=k then w.heap.size else r q) s z:=by
 have I:=h.top.lt;rw[<-World.setCell_alloc_past _ _ _ _ I];have K:=World.rowIs_made w (.slice none 0 0) n2 79;have A:=h.new<|Fr.alloc w (.cells (madeCells #[.slice none 0 0] n2) 79);generalize w.alloc (.cells (madeCells #[.slice none 0 0] n2) 79)=wa at K A;have hf:Fr (λq=>q=g) wa (wa.setCell (Ad g k) (.slice (some (Ad w.heap.size 0)) n2 n2)):=(Fr.refl (λq=>q=g) _).set (p:=(Ad g k)) (.inl rfl) _;have D:∀q j,q<k->j<n2->(dn (k+1) 0 q j↔dn k n2 q j):=λq j F i=>by unfold dn;omega
 refine⟨(A.top.set k _).congr (λq F=>?_),λq F=>?_,λq o F J C=>?_,λq j F i c=>?_,λq j o L F i c J E l C=>?_,h.base⟩
 ·by_cases e:q=k
  ·subst e;simp
  simp only[ifn e];by_cases u:q<k
  ·rw[ifp u,ifp (by omega)]
  rw[ifn u,ifn (by omega)]
 ·by_cases e:q=k
  ·simp only[ifp e];refine⟨hf.row (K.congr (λj i=>?_)) (by omega),O⟩;rw[ifn (by unfold dn;omega)]
  simp only[ifn e];refine⟨hf.row ((A.mid q (by omega)).1.congr (λj i=>?_)) (Cp (A.mid q (by omega)).1 A.top (by decide)),(h.mid q (by omega)).2⟩;by_cases u:dn k n2 q j
  ·rw[ifp u,ifp ((D q j (by omega) i).2 u)]
  rw[ifn u,ifn (λN=>u ((D q j (by omega) i).1 N))]
 ·by_cases e:q=k
  ·by_cases G:o=k
   ·omega
   simp only[ifp e,ifn G]at C;have:=(h.mid o (by omega)).1.lt;omega
  by_cases G:o=k
  ·simp only[ifn e,ifp G]at C;have:=(h.mid q (by omega)).1.lt;omega
  simp only[ifn e,ifn G]at C;exact h.rinj q o (by omega) (by omega) C
 ·have d:q<k:=by unfold dn at c;omega
  have H:=A.vec q j d i ((D q j d i).1 c);exact⟨hf.row H.1 (Cp H.1 A.top (by decide)),H.2⟩
 have d:q<k:=by unfold dn at c;omega
 have m:o<k:=by unfold dn at l;omega
 exact h.vinj q j o L d i ((D q j d i).1 c) m E ((D o L m E).1 l) C
theorem addVec(h:TQ w B g n1 n2 n (k+1) jd r s z)(P:jd<n2){I:World}(hf:Fr (λ_=>False) w I)(Q:I.rowIs v 9 n (λ_=>.string z))(S:B<=w.heap.size)(R:w.heap.size<=v):
  TQ (I.setCell (Ad (r k) jd) (.slice (some (Ad v 0)) n n)) B g n1 n2 n (k+1) (jd+1) r (λa b=>if a=k/\b=jd then v else s a b) z:=by
 have C:=h.new hf;have u:Fr (λc=>c=r k) I (I.setCell (Ad (r k) jd) (.slice (some (Ad v 0)) n n)):=(Fr.refl (λc=>c=r k) I).set (p:=(Ad (r k) jd)) (.inl rfl) _;have l:∀q j,q<k+1->¬(q=k/\j=jd)->(dn (k+1) (jd+1) q j↔dn (k+1) jd q j):=λq j d T=>by unfold dn;omega
 have E:∀q j,q<k+1->j<n2->dn (k+1) jd q j->s q j<w.heap.size:=λq j d P l=>(h.vec q j d P l).1.lt;refine⟨u.row C.top (λe=>Cp C.top (C.mid k (by omega)).1 (by decide) e),λq d=>?_,h.rinj,λq j d i o=>?_,λq j H G d i o A K D L=>?_,h.base⟩
 ·by_cases e:q=k
  ·subst e;refine⟨((C.mid q d).1.set jd _).congr (λj i=>?_),(h.mid q d).2⟩;by_cases J:j=jd
   ·rw[ifp J,ifp (by unfold dn;omega),ifp ⟨rfl,J⟩]
   rw[ifn J,ifn (show ¬(q=q/\j=jd) by omega)];by_cases m:dn (q+1) jd q j
   ·rw[ifp m,ifp ((l q j d (by omega)).2 m)]
   rw[ifn m,ifn (λN=>m ((l q j d (by omega)).1 N))]
  refine⟨(u.row (C.mid q d).1 (λJ=>e (h.rinj q k d (by omega) J))).congr (λj i=>?_),(h.mid q d).2⟩;rw[ifn (show ¬(q=k/\j=jd) by omega)];by_cases m:dn (k+1) jd q j
  ·rw[ifp m,ifp ((l q j d (by omega)).2 m)]
  rw[ifn m,ifn (λN=>m ((l q j d (by omega)).1 N))]
 ·by_cases e:q=k/\j=jd
  ·simp only[ifp e];exact⟨u.row Q (Cp Q (C.mid k (by omega)).1 (by decide)),by omega⟩
  simp only[ifn e];have O:=C.vec q j d i ((l q j d e).1 o);exact⟨u.row O.1 (Cp O.1 (C.mid k (by omega)).1 (by decide)),O.2⟩
 by_cases e:q=k/\j=jd
 ·by_cases F:H=k/\G=jd
  ·omega
  simp only[ifp e,ifn F]at L;have:=E H G A K ((l H G A F).1 D);omega
 by_cases F:H=k/\G=jd
 ·simp only[ifn e,ifp F]at L;have:=E q j d i ((l q j d e).1 o);omega
 simp only[ifn e,ifn F]at L;exact h.vinj q j H G d i ((l q j d e).1 o) A K ((l H G A F).1 D) L
end TQ
structure TW(w:World)(B g n1 n2 n:Nat)(r:Nat->Nat)(s:Nat->Nat->Nat)(X:TbR):Prop where
 top:w.rowIs g 75 n1 (λq=>.slice (some (Ad (r q) 0)) n2 n2)
 mid:∀q,q<n1->w.rowIs (r q) 79 n2 (λj=>.slice (some (Ad (s q j) 0)) n n)/\B<=r q
 rinj:∀q q',q<n1->q' < n1->r q=r q'->q=q'
 vec:∀q j,q<n1->j<n2->w.rowIs (s q j) 9 n (λp=>.string (X q j p))
theorem TQ.whole{B n1 n2:Nat}{r:Nat->Nat}{s:Nat->Nat->Nat}{k:Int}(h:TQ w B g n1 n2 n n1 n2 r s (Af k)):TW w B g n1 n2 n r s (λ_ _=>zerR k) :=
 ⟨h.top.congr (λq c=>by rw[ifp c]),λq c=>⟨(h.mid q c).1.congr (λj d=>by rw[ifp (by unfold dn;omega)]),(h.mid q c).2⟩,h.rinj,λq j c d=>(h.vec q j c d (by unfold dn;omega)).1⟩
theorem TQ.lead{w:World}{B g n1 n2:Nat}{r:Nat->Nat}{s:Nat->Nat->Nat}{D:MD}{st:Nat}(h:TQ w B g n1 n2 D.n n1 n2 r s (Af D.kind))(C:D.start=(st:Int))(m:0<n1)(o:0<n2):TW (w.setCell (Ad (s 0 0) st) (.string D.lead)) B g n1 n2 D.n r s (X0R D)/\B<=s 0 0:=by
 have d:=h.whole;have u:=d.vec 0 0 m o;have i:Fr (λc=>c=s 0 0) w (w.setCell (Ad (s 0 0) st) (.string D.lead)):=(Fr.refl (λc=>c=s 0 0) w).set (p:=(Ad (s 0 0) st)) (.inl rfl) _;refine⟨⟨i.row d.top (λe=>Cp d.top u (by decide) e),λq l=>⟨i.row (d.mid q l).1 (λe=>Cp (d.mid q l).1 u (by decide) e),(d.mid q l).2⟩,d.rinj,λq j l z=>?_⟩,(h.vec 0 0 m o (by unfold dn;omega)).2⟩;by_cases e:q=0/\j=0
 ·obtain⟨rfl,rfl⟩:=e;refine(u.set st _).congr (λp _=>?_);have A:X0R D 0 0 p=updS (zerR D.kind) st D.lead p:=by
   unfold X0R;rw[ifp (show (0:Nat)=0/\(0:Nat)=0 from ⟨rfl,rfl⟩),show D.start.toNat=st by omega]
  show _=Value.string (X0R D 0 0 p);rw[A];unfold updS;by_cases k:p=st
  ·rw[ifp k,ifp k]
  rw[ifn k,ifn k]
 refine(i.row (d.vec q j l z) (λk=>e (h.vinj q j 0 0 l z (by unfold dn;omega) m o (by unfold dn;omega) k))).congr (λp _=>?_);show _=Value.string ((if q=0/\j=0 then updS (zerR D.kind) D.start.toNat D.lead else zerR D.kind) p)
 rw[ifn e]
namespace TW
variable{w w':World}{B g n1 n2 n:Nat}{r:Nat->Nat}{s:Nat->Nat->Nat}{X:TbR}
theorem new(h:TW w B g n1 n2 n r s X)(hf:Fr (λ_=>False) w w'):TW w' B g n1 n2 n r s X :=
 ⟨hf.row h.top (λe=>e),λq c=>⟨hf.row (h.mid q c).1 (λe=>e),(h.mid q c).2⟩,h.rinj,λq j c d=>hf.row (h.vec q j c d) (λe=>e)⟩
theorem put(h:TW w B g n1 n2 n r s X){q:Nat}{Z:Nat->ByteArray}(l:q<n1)(o:j<n2)(m:w.rowIs v 9 n (λp=>.string (Z p))):
  TW (w.setCell (Ad (r q) j) (.slice (some (Ad v 0)) n n)) B g n1 n2 n r (λa b=>if a=q/\b=j then v else s a b) (updT X q j Z):=by
 have d:Fr (λc=>c=r q) w (w.setCell (Ad (r q) j) (.slice (some (Ad v 0)) n n)):=(Fr.refl (λc=>c=r q) w).set (p:=(Ad (r q) j)) (.inl rfl) _;refine⟨d.row h.top (λe=>Cp h.top (h.mid q l).1 (by decide) e),λa i=>?_,h.rinj,λa b i hb=>?_⟩
 ·by_cases e:a=q
  ·subst e;refine⟨((h.mid a i).1.set j _).congr (λb hb=>?_),(h.mid a i).2⟩;by_cases k:b=j
   ·rw[ifp k,ifp ⟨rfl,k⟩]
   rw[ifn k,ifn (show ¬(a=a/\b=j) by omega)]
  refine⟨(d.row (h.mid a i).1 (λk=>e (h.rinj a q i l k))).congr (λb hb=>?_),(h.mid a i).2⟩;rw[ifn (show ¬(a=q/\b=j) by omega)]
 by_cases e:a=q/\b=j
 ·simp only[ifp e];refine(d.row m (Cp m (h.mid q l).1 (by decide))).congr (λp _=>?_);unfold updT;rw[ifp e]
 simp only[ifn e];refine(d.row (h.vec a b i hb) (Cp (h.vec a b i hb) (h.mid q l).1 (by decide))).congr (λp _=>?_);unfold updT;rw[ifn e]
end TW
end
section
variable{i j n:Nat}{v:Nat->ByteArray}
def rsP8(k:Int)(S:Nat->Nat->ByteArray)(v:Nat->ByteArray)(q:Nat):Nat->WS->WS
 |0,s=>s
 |p+1,s=>if (rsP8 k S v q p s).2≠0 then rsP8 k S v q p s else if v q=Af k\/S q p=Af k then rsP8 k S v q p s else addR k (rsP8 k S v q p s).1 p (v q) (S q p)
def rsQ8(k:Int)(S:Nat->Nat->ByteArray)(v:Nat->ByteArray)(n:Nat):Nat->WS->WS
 |0,s=>s
 |q+1,s=>rsP8 k S v q n (rsQ8 k S v n q s)
def rest8(k:Int)(n:Nat)(st:StarO)(v:Nat->ByteArray):WS:=match st with
 |none=>(v,0)
 |some S=>rsQ8 k S v n n (zerR k,0)
def rsT(D:MD)(st:StarO)(i j:Nat)(s:TbR × Nat):TbR × Nat :=
 if s.2≠0 then s else if (rest8 D.kind D.n st (s.1 i j)).2≠0 then (s.1,(rest8 D.kind D.n st (s.1 i j)).2) else (updT s.1 i j (rest8 D.kind D.n st (s.1 i j)).1,0)
def Bh(D:MD)(st:StarO)(na:Nat)(x:Nat->Int)(nb:Nat)(y:Nat->Int)(i:Nat):Nat->TbR × Nat->TbR × Nat
 |0,s=>s
 |j+1,s=>mvR D na x nb y i j 4 (rsT D st i j (Bh D st na x nb y i j s))
def Bg(D:MD)(st:StarO)(na:Nat)(x:Nat->Int)(nb:Nat)(y:Nat->Int):Nat->TbR × Nat->TbR × Nat
 |0,s=>s
 |i+1,s=>Bh D st na x nb y i (nb+1) (Bg D st na x nb y i s)
def CU(D:MD)(st:StarO)(na:Nat)(x:Nat->Int)(nb:Nat)(y:Nat->Int):ByteArray × Nat :=
 if (Bg D st na x nb y (na+1) (X0R D,0)).2≠0 then (⟨#[]⟩,(Bg D st na x nb y (na+1) (X0R D,0)).2) else endR D ((Bg D st na x nb y (na+1) (X0R D,0)).1 na nb)
section
variable{D:MD}{st:StarO}{na:Nat}{x:Nat->Int}{nb:Nat}{y:Nat->Int}
theorem PP{s:TbR × Nat}(h:s.2≠0):rsT D st i j s=s:=ifp h
theorem Hb{i j:Nat}{s:TbR × Nat}(h:(Bh D st na x nb y i j s).2≠0):∀d,Bh D st na x nb y i (j+d) s=Bh D st na x nb y i j s
 |0=>rfl
 |d+1=>by
  show mvR D na x nb y i (j+d) 4 (rsT D st i (j+d) (Bh D st na x nb y i (j+d) s))=_;rw[Hb h d,PP h];exact Hy (k:=0) h 4
theorem Lp{i:Nat}{s:TbR × Nat}(h:(Bg D st na x nb y i s).2≠0):∀d,Bg D st na x nb y (i+d) s=Bg D st na x nb y i s
 |0=>rfl
 |d+1=>by
  show Bh D st na x nb y (i+d) (nb+1) (Bg D st na x nb y (i+d) s)=_;rw[Lp h d];have:=Hb (D:=D) (st:=st) (na:=na) (x:=x) (nb:=nb) (y:=y) (i:=i+d) (j:=0) (s:=Bg D st na x nb y i s) h (nb+1);rw[Nat.zero_add]at this;exact this
theorem Rx{c z:TbR × Nat}(m:c=Bg D st na x nb y i (X0R D,0))(h:Bh D st na x nb y i (j+1) c=z)(d:z.2≠0)(hi:i<=na)(o:j<=nb):CU D st na x nb y=(⟨#[]⟩,z.2):=by
 have k:Bh D st na x nb y i (nb+1) c=z:=by
  have:=Hb (D:=D) (st:=st) (na:=na) (x:=x) (nb:=nb) (y:=y) (i:=i) (j:=j+1) (s:=c) (by rw[h];exact d) (nb-j);rw[show j+1+(nb-j)=nb+1 by omega,h]at this;exact this
 have g:Bg D st na x nb y (i+1) (X0R D,0)=z:=by show Bh D st na x nb y i (nb+1) (Bg D st na x nb y i (X0R D,0))=z;rw[<-m];exact k
 have l:Bg D st na x nb y (na+1) (X0R D,0)=z:=by
  have:=Lp (D:=D) (st:=st) (na:=na) (x:=x) (nb:=nb) (y:=y) (i:=i+1) (s:=(X0R D,0)) (by rw[g];exact d) (na-i);rw[show i+1+(na-i)=na+1 by omega,g]at this;exact this
 unfold CU;rw[l,ifp d]
theorem z0w{k:Nat}{c d z:TbR × Nat}(l:c=Bg D st na x nb y i (X0R D,0))(m:d=rsT D st i j (Bh D st na x nb y i j c))(g:mvR D na x nb y i j k d=z)(h:z.2≠0)(hi:i<=na)(o:j<=nb)(p:k<=4):CU D st na x nb y=(⟨#[]⟩,z.2):=by
 refine Rx l ?_ h hi o;show mvR D na x nb y i j 4 (rsT D st i j (Bh D st na x nb y i j c))=z;rw[<-m];have:=Hy (D:=D) (na:=na) (x:=x) (nb:=nb) (y:=y) (i:=i) (j:=j) (k:=k) (s:=d) (by rw[g];exact h) (4-k);rw[show k+(4-k)=4 by omega,g]at this;exact this
end
theorem KS{k:Int}{S:Nat->Nat->ByteArray}{v:Nat->ByteArray}{q:Nat}:∀(p:Nat) {s:WS},(∀j,smS (s.1 j))->∀j,smS ((rsP8 k S v q p s).1 j)
 |0,_,h=>h
 |p+1,s,h=>λj=>by
  have ih:=KS (k:=k) (S:=S) (v:=v) (q:=q) p h;unfold rsP8
  split
  ·exact ih j
  split
  ·exact ih j
  exact IW ih j
theorem KU{k:Int}{S:Nat->Nat->ByteArray}{v:Nat->ByteArray}{n:Nat}:∀(q:Nat) {s:WS},(∀j,smS (s.1 j))->∀j,smS ((rsQ8 k S v n q s).1 j)
 |0,_,h=>h
 |q+1,_,h=>KS n (KU q h)
theorem KC{k:Int}{st:StarO}(c:∀j,smS (v j)):∀j,smS ((rest8 k n st v).1 j):=by
 cases st with
 |none=>exact c
 |some S=>exact KU n (λ_=>Dk k)
open CSR
section
variable{k:KK}{j0:Int}(hk:k.1=j0)
def Rl8(k:KK)(n:Nat)(l:Nat->ByteArray)(v:Nat->RK k):Prop:=∀p,p<n->Sv k (l p) (v p)
include hk
theorem IX{t:Nat}{l:Nat->ByteArray}{lv:Nat->RK k}{a b:ByteArray}{x y:RK k}(h:Rl8 k n l lv)(s:t<n)(m:Sv k a x)(hb:Sv k b y)(c:(addR j0 l t a b).2=0):Rl8 k n (addR j0 l t a b).1 (λp=>if p=t then lv t+x*y else lv p):=by
 subst hk;unfold addR at c ⊢;by_cases g:(Al k.1 a b).2≠0
 ·rw[ifp g]at c;exact absurd c g
 rw[ifn g]at c ⊢;have i:(Al k.1 a b).2=0:=by omega
 by_cases d:(Am k.1 (l t) (Al k.1 a b).1).2=0
 ·rw[ifp d];have j:=Ie (h t s) (ZK m hb i) d;intro p o;show Sv k (updS l t _ p) (if p=t then lv t+x*y else lv p)
  unfold updS;by_cases e:p=t
  ·rw[ifp e,ifp e];exact j
  rw[ifn e,ifn e];exact h p o
 rw[ifn d]at c;exact absurd c d
theorem LI{s:ByteArray}{x:RK k}(h:Sv k s x):s=Af j0↔x=zero:=by subst hk;exact h.eq_zero
theorem PM{n:Nat}{S:Nat->Nat->ByteArray}{M:Nat->Nat->RK k}{v:Nat->ByteArray}{q:Nat}{xq:RK k}(hS:∀p,p<n->Sv k (S q p) (M q p))(hv:Sv k (v q) xq):∀(p:Nat) {s:WS} {lv:Nat->RK k},p<=n->Rl8 k n s.1 lv->(rsP8 j0 S v q p s).2=0->Rl8 k n (rsP8 j0 S v q p s).1 (λr=>if r<p then lv r+xq*M q r else lv r)
 |0,s,lv,_,h,_=>λr hr=>by simp only[Nat.not_lt_zero,if_false];exact h r hr
 |p+1,s,lv,hp,h,he=>by
  have he0:(rsP8 j0 S v q p s).2=0:=by
   by_cases e:(rsP8 j0 S v q p s).2=0
   ·exact e
   unfold rsP8 at he;rw[ifp e]at he;exact absurd he e
  have ih:=PM hS hv p (by omega) h he0;unfold rsP8 at he ⊢;rw[ifn (by omega)]at he ⊢;by_cases hc:v q=Af j0\/S q p=Af j0
  ·rw[ifp hc];have hz:xq*M q p=zero:=by
    rcases hc with h1|h1
    ·rw[(LI hk hv).1 h1,zm]
    rw[(LI hk (hS p (by omega))).1 h1,m0]
   intro r hr;have h1:=ih r hr;by_cases e:r<p
   ·simp only[ifp e]at h1;simp only[ifp (show r<p+1 by omega)];exact h1
   simp only[ifn e]at h1;by_cases e2:r=p
   ·subst e2;simp only[ifp (show r<r+1 by omega)];rw[hz,a0];exact h1
   simp only[ifn (show ¬r<p+1 by omega)];exact h1
  rw[ifn hc]at he ⊢;have h1:=IX hk ih (show p<n by omega) hv (hS p (by omega)) he;intro r hr;have h2:=h1 r hr;by_cases e2:r=p
  ·subst e2;simp only[if_pos,Nat.lt_irrefl,if_false]at h2;simp only[ifp (show r<r+1 by omega)];exact h2
  simp only[ifn e2]at h2;by_cases e:r<p
  ·simp only[ifp e]at h2;simp only[ifp (show r<p+1 by omega)];exact h2
  simp only[ifn e]at h2;simp only[ifn (show ¬r<p+1 by omega)];exact h2
omit hk in
theorem PL{j:Int}{S:Nat->Nat->ByteArray}{v:Nat->ByteArray}{q:Nat}:∀(p:Nat) {s:WS},(rsP8 j S v q p s).2=0->s.2=0
 |0,_,h=>h
 |p+1,s,h=>by
  unfold rsP8 at h;by_cases e:(rsP8 j S v q p s).2≠0
  ·rw[ifp e]at h;exact absurd h e
  have e2:(rsP8 j S v q p s).2=0:=by omega
  exact PL p e2
theorem PO{n:Nat}{S:Nat->Nat->ByteArray}{M:Nat->Nat->RK k}{v:Nat->ByteArray}{vv:Nat->RK k}(hS:∀q p,q<n->p<n->Sv k (S q p) (M q p))(hv:∀q,q<n->Sv k (v q) (vv q)):∀(q:Nat) {s:WS} {lv:Nat->RK k},q<=n->Rl8 k n s.1 lv->(rsQ8 j0 S v n q s).2=0->Rl8 k n (rsQ8 j0 S v n q s).1 (λr=>lv r+sum (λq=>vv q*M q r) q)
 |0,s,lv,_,h,_=>λr hr=>by show Sv k _ (lv r+zero);rw[a0];exact h r hr
 |q+1,s,lv,hq,h,he=>by
  have he':(rsP8 j0 S v q n (rsQ8 j0 S v n q s)).2=0:=he;have ih:=PO hS hv q (by omega) h (PL n he');have h4:=PM hk (λp hp=>hS q p (by omega) hp) (hv q (by omega)) n nlr ih he';intro r hr;have h5:=h4 r hr;simp only[ifp hr]at h5;show Sv k _ (lv r+(sum _ q+_));rw[<-aA];exact h5
end
section
variable{D:MD}(hV:VM D){k:KK}(hk:k.1=D.kind)
include hV hk
theorem KD{st:StarO}(c:StOk k D st){vv:Nat->RK k}(h:Rl8 k D.n v vv)(j:(rest8 D.kind D.n st v).2=0):Rl8 k D.n (rest8 D.kind D.n st v).1 (rst (sil (rmOf k D)) D.n vv):=by
 cases st with
 |none=>intro p d;rw[Yv c vv d];exact h p d
 |some S =>
  have i:=PO hk c h D.n (s:=(zerR D.kind,0)) (lv:=λ_=>zero) nlr (λp _=>by rw[<-hk];exact Sv.zero) j;intro p d;have g:Sv k _ (zero+sum (λq=>vv q*starM (sil (rmOf k D)) D.n q p) D.n):=i p d;rw[z0]at g;exact g
theorem Mb{i o:Int}{v:Nat->ByteArray}{q:Nat}{xq:RK k}(hq:q<D.n)(hv:Sv k (v q) xq):∀(d:Nat) {s:WS} {lv:Nat->RK k},d<=D.na q->Rl8 k D.n s.1 lv->(AM D i o v q d s).2=0->Rl8 k D.n (AM D i o v q d s).1 (λp=>lv p+sum (λd=>if (rmOf k D).ain q d=i/\(rmOf k D).aout q d=o/\(rmOf k D).ato q d=p then xq*(rmOf k D).aw q d else zero) d)
 |0,s,lv,_,h,_=>λp hp=>by show Sv k _ (lv p+zero);rw[a0];exact h p hp
 |d+1,s,lv,hd,h,he=>by
  have he0:(AM D i o v q d s).2=0:=by
   by_cases e:(AM D i o v q d s).2=0
   ·exact e
   unfold AM arcR at he;rw[ifp e]at he;exact absurd he e
  have ih:=Mb hq hv (i:=i) (o:=o) d (by omega) h he0;unfold AM arcR at he ⊢;rw[ifn (by omega)]at he ⊢;have ha:=hV.arc q d hq (by omega);have ht:(D.ato q d).toNat<D.n:=by have:=ha.t0;have:=ha.t1;omega
  intro p hp;show Sv k _ (lv p+(sum _ d+(if D.ain q d=i/\D.aout q d=o/\(D.ato q d).toNat=p then xq*wval k (D.aw q d) else zero)))
  by_cases hm:D.ain q d=i/\D.aout q d=o
  ·rw[ifp hm]at he ⊢;have h1:=IX hk ih ht hv (FD hk ha.wt) he p hp;by_cases e:p=(D.ato q d).toNat
   ·simp only[ifp e]at h1;rw[ifp ⟨hm.1,hm.2,e.symm⟩,<-aA];subst e;exact h1
   simp only[ifn e]at h1;rw[ifn (λh=>e h.2.2.symm),a0];exact h1
  rw[ifn hm,ifn (λh=>hm ⟨h.1,h.2.1⟩),a0];exact ih p hp
theorem Lj{i o:Int}{v:Nat->ByteArray}{vv:Nat->RK k}(hv:Rl8 k D.n v vv):∀(q:Nat) {s:WS} {lv:Nat->RK k},q<=D.n->Rl8 k D.n s.1 lv->(Ak D i o v q s).2=0->Rl8 k D.n (Ak D i o v q s).1 (λp=>lv p+stq (rmOf k D) i o vv q p)
 |0,s,lv,_,h,_=>λp hp=>by show Sv k _ (lv p+zero);rw[a0];exact h p hp
 |q+1,s,lv,hq,h,he=>by
  have he0:(Ak D i o v q s).2=0:=by
   by_cases e:(Ak D i o v q s).2=0
   ·exact e
   have h1:Ak D i o v (q+1) s=Ak D i o v q s:=GB e 1;rw[h1]at he;exact absurd he e
  have ih:=Lj hv (i:=i) (o:=o) q (by omega) h he0;have hvq:=hv q (by omega);unfold Ak rowR at he ⊢;intro p hp;show Sv k _ (lv p+(stq (rmOf k D) i o vv q p+sum _ _));by_cases hz:v q=Af D.kind
  ·rw[ifp hz];rw[sum_congr (g:=λ_=>zero) (λd _=>by split;exact(by rw[(LI hk hvq).1 hz,zm]);rfl),sum_zero,a0];exact ih p hp
  rw[ifn hz]at he ⊢;have h1:=Mb hV hk (show q<D.n by omega) hvq (D.na q) nlr ih he p hp;rw[<-aA];exact h1
omit hV in
theorem QA{n:Nat}{a b:Nat->ByteArray}{av bv:Nat->RK k}(ha:Rl8 k n a av)(hb:Rl8 k n b bv):∀m,m<=n->(sumR D.kind a b m).2=0->Rl8 k m (sumR D.kind a b m).1 (λp=>av p+bv p)
 |0,_,_=>λp hp=>absurd hp (Nat.not_lt_zero p)
 |m+1,hm,he=>by
  have he0:(sumR D.kind a b m).2=0:=by
   by_cases e:(sumR D.kind a b m).2=0
   ·exact e
   have h1:=Lm (k:=D.kind) (a:=a) (b:=b) e 1;rw[h1]at he;exact absurd he e
  have ih:=QA ha hb m (by omega) he0;unfold sumR at he ⊢;rw[ifn (by omega)]at he ⊢;by_cases hp:(Am D.kind (a m) (b m)).2≠0
  ·rw[ifp hp]at he;exact absurd he hp
  rw[ifn hp];intro p hpm;show Sv k (updS _ m _ p) _;unfold updS;by_cases e:p=m
  ·rw[ifp e,e];have h1:(Am k.1 (a m) (b m)).2=0:=by
    have h0:(Am D.kind (a m) (b m)).2=0:=by omega
    exact(congrArg (λz=>(Am z (a m) (b m)).2) hk).trans h0
   have h2:=Ie (ha m (by omega)) (hb m (by omega)) h1;have h3:(Am k.1 (a m) (b m)).1=(Am D.kind (a m) (b m)).1:=congrArg (λz=>(Am z (a m) (b m)).1) hk;rw[<-h3];exact h2
  rw[ifn e];exact ih p (by omega)
theorem JG{v:Nat->ByteArray}{vv:Nat->RK k}(hv:Rl8 k D.n v vv):∀q,q<=D.n->(finR D v q).2=0->Sv k ((finR D v q).1 0) (dot q vv (rmOf k D).fin)
 |0,_,_=>by show Sv k (Af D.kind) zero;rw[<-hk];exact Sv.zero
 |q+1,hq,he=>by
  have he0:(finR D v q).2=0:=by
   by_cases e:(finR D v q).2=0
   ·exact e
   have h1:=JF (D:=D) (v:=v) e 1;rw[h1]at he;exact absurd he e
  have ih:=JG hv q (by omega) he0;unfold finR at he ⊢;have hd:dot (q+1) vv (rmOf k D).fin=dot q vv (rmOf k D).fin+vv q*(rmOf k D).fin q:=rfl;rw[ifn (by omega)]at he ⊢;rw[hd];by_cases hf:D.fin q=⟨#[]⟩
  ·rw[ifp hf];have hz:(rmOf k D).fin q=zero:=ifp hf;rw[hz,m0,a0];exact ih
  rw[ifn hf]at he ⊢;have hw:=FD hk ((hV.fin q (by omega)).resolve_left hf);have hft:(rmOf k D).fin q=wval k (D.fin q):=ifn hf;have h1:=IX hk (n:=1) (t:=0) (lv:=λ_=>dot q vv (rmOf k D).fin) (l:=(finR D v q).1) (λp hp=>by rw[show p=0 by omega];exact ih) (by omega) (hv q (by omega)) hw he 0 (by omega);simp only[if_pos]at h1;rw[hft];exact h1
abbrev TbK(k:KK):=Nat->Nat->Nat->RK k
def Bs{k:KK}(U:TbK k)(a b:Nat)(u:Nat->RK k):TbK k:=λi j=>if i=a/\j=b then u else U i j
def Rt8(k:KK)(n:Nat)(X:TbR)(U:TbK k):Prop:=∀i j,Rl8 k n (X i j) (U i j)
omit hV hk in
theorem Rt8.upd{X:TbR}{U:TbK k}(h:Rt8 k n X U){a b:Nat}{vv:Nat->RK k}(hv:Rl8 k n v vv):Rt8 k n (updT X a b v) (Bs U a b vv):=by
 intro i j;unfold updT Bs;by_cases e:i=a/\j=b
 ·rw[ifp e,ifp e];exact hv
 rw[ifn e,ifn e];exact h i j
variable{na:Nat}{x:Nat->Int}{nb:Nat}{y:Nat->Int}{st:StarO}
theorem JO{u v:Nat}{s:TbR × Nat}{U:TbK k}{f:Nat->RK k}(h:Rt8 k D.n s.1 U)(hf:∀p,p<D.n->U i j p=f p)(c:(kR D na x nb y i j u v s).2=0):
  s.2=0/\Rt8 k D.n (kR D na x nb y i j u v s).1 (if na<i+u\/nb<j+v then U else Bs U (i+u) (j+v) (λp=>U (i+u) (j+v) p+stp (rmOf k D) (if u=1 then x i else 0) (if v=1 then y j else 0) f p)):=by
 unfold kR at c ⊢;by_cases A:s.2≠0
 ·rw[ifp (.inl A)]at c;exact absurd c A
 refine⟨by omega,?_⟩;by_cases g:na<i+u\/nb<j+v
 ·rw[ifp (.inr g),ifp g];exact h
 have l:¬(s.2≠0\/na<i+u\/nb<j+v):=by omega
 rw[ifn l]at c ⊢;rw[ifn g];by_cases m:(Ak D (if u=1 then x i else 0) (if v=1 then y j else 0) (s.1 i j) D.n (zerR D.kind,0)).2≠0
 ·rw[ifp m]at c;exact absurd c m
 rw[ifn m]at c ⊢;have C:=Lj hV hk (i:=if u=1 then x i else 0) (o:=if v=1 then y j else 0) (vv:=f) (λp d=>by rw[<-hf p d];exact h i j p d) D.n (s:=(zerR D.kind,0)) (lv:=λ_=>zero) nlr (λp _=>by rw[<-hk];exact Sv.zero) (by omega)
 by_cases z:(sumR D.kind (s.1 (i+u) (j+v)) (Ak D (if u=1 then x i else 0) (if v=1 then y j else 0) (s.1 i j) D.n (zerR D.kind,0)).1 D.n).2≠0
 ·rw[ifp z]at c;exact absurd c z
 rw[ifn z];refine h.upd ?_;have E:=QA hk (h (i+u) (j+v)) C D.n nlr (by omega);intro p d;have B:Sv k _ (U (i+u) (j+v) p+(zero+stq (rmOf k D) (if u=1 then x i else 0) (if v=1 then y j else 0) f D.n p)):=E p d
 rw[z0]at B;exact B
theorem Tj(J:StOk k D st)(hi:i<=na)(W:j<=nb){s:TbR × Nat}{U:TbK k}(h:Rt8 k D.n s.1 U)(B:(mvR D na x nb y i j 4 (rsT D st i j s)).2=0):
  s.2=0/\∃U' f,Rt8 k D.n (mvR D na x nb y i j 4 (rsT D st i j s)).1 U'/\Cell (rmOf k D) na x nb y i j f (U i) (U (i+1)) (U' i) (U' (i+1))/\(∀p,p<D.n->U' i j p=f p)/\∀i' j',i'≠i->i'≠i+1->U' i' j'=U i' j':=by
 have O:mvR D na x nb y i j 4 (rsT D st i j s)=kR D na x nb y i j 1 1 (kR D na x nb y i j 0 1 (kR D na x nb y i j 1 0 (rsT D st i j s))):=rfl;rw[O]at B ⊢;have l:∀{t:TbR × Nat} {u v:Nat},(kR D na x nb y i j u v t).2=0->t.2=0:=λ{t u v} h=>by
  unfold kR at h;by_cases P:t.2≠0
  ·rw[ifp (.inl P)]at h;exact absurd h P
  omega
 have z:=l B;have o:=l z;have c:=l o;have I:s.2=0:=by
  by_cases e:s.2=0
  ·exact e
  rw[PP e]at c;exact c
 refine⟨I,?_⟩;obtain⟨f,hf⟩:=exq<|rst (sil (rmOf k D)) D.n (U i j);have Q:Rt8 k D.n (rsT D st i j s).1 (Bs U i j f):=by
  unfold rsT at c ⊢;rw[ifn (by omega)]at c ⊢;by_cases g:(rest8 D.kind D.n st (s.1 i j)).2≠0
  ·rw[ifp g]at c;exact absurd c g
  rw[ifn g,hf];exact h.upd<|KD hV hk J (h i j) (by omega)
 have N:∀p,p<D.n->Bs U i j f i j p=f p:=λp _=>by unfold Bs;rw[ifp ⟨rfl,rfl⟩]
 have r1:=(JO hV hk (u:=1) (v:=0) Q N o).2;generalize hU1:(if na<i+1\/nb<j+0 then Bs U i j f else Bs (Bs U i j f) (i+1) (j+0) (λp=>Bs U i j f (i+1) (j+0) p+stp (rmOf k D) (if (1:Nat)=1 then x i else 0) (if (0:Nat)=1 then y j else 0) f p))=U1 at r1
 have C:∀p,p<D.n->U1 i j p=f p:=λp d=>by
  rw[<-hU1];split
  ·exact N p d
  unfold Bs;rw[ifn (by omega),ifp ⟨rfl,rfl⟩]
 have K:=(JO hV hk (u:=0) (v:=1) r1 C z).2;generalize hU2:(if na<i+0\/nb<j+1 then U1 else Bs U1 (i+0) (j+1) (λp=>U1 (i+0) (j+1) p+stp (rmOf k D) (if (0:Nat)=1 then x i else 0) (if (1:Nat)=1 then y j else 0) f p))=U2 at K
 have E:∀p,p<D.n->U2 i j p=f p:=λp d=>by
  rw[<-hU2];split
  ·exact C p d
  unfold Bs;rw[ifn (by omega)];exact C p d
 have L:=(JO hV hk (u:=1) (v:=1) K E B).2;generalize hU3:(if na<i+1\/nb<j+1 then U2 else Bs U2 (i+1) (j+1) (λp=>U2 (i+1) (j+1) p+stp (rmOf k D) (if (1:Nat)=1 then x i else 0) (if (1:Nat)=1 then y j else 0) f p))=U3 at L
 have R:∀p,p<D.n->U3 i j p=f p:=λp d=>by
  rw[<-hU3];split
  ·exact E p d
  unfold Bs;rw[ifn (by omega)];exact E p d
 simp only[Nat.add_zero,if_true,show ((0:Nat)=1)=False by simp,if_false]at hU1 hU2 hU3;refine⟨U3,f,L,⟨λp d=>by rw[hf];rfl,λH p d=>?_,λj' g A F p d=>?_,λH p d=>?_,λH T p d=>?_,λH j' g A F p d=>?_⟩,R,λi' j' g A=>?_⟩
 all_goals
  clear r1 K L N C E R Q B o z c l O;subst hU3 hU2 hU1
 ·have c1:¬nb<j+1:=by omega
  have c2:¬na<i:=by omega
  have c3:¬nb<j:=by omega
  by_cases g:na<i+1<;>simp[Bs,c1,c2,c3,g]
 ·have S:j'≠j:=by omega
  have c2:¬na<i:=by omega
  have c3:¬nb<j:=by omega
  by_cases G:na<i+1<;>by_cases m:nb<j+1<;>simp[Bs,c2,c3,G,m,S,F]
 ·have c1:¬na<i+1:=by omega
  have c2:¬na<i:=by omega
  have c3:¬nb<j:=by omega
  by_cases m:nb<j+1<;>simp[Bs,c1,c2,c3,m]
 ·have c1:¬na<i+1:=by omega
  have c2:¬na<i:=by omega
  have c3:¬nb<j:=by omega
  have c4:¬nb<j+1:=by omega
  simp[Bs,c1,c2,c3,c4]
 ·have c1:¬na<i+1:=by omega
  have c2:¬na<i:=by omega
  have c3:¬nb<j:=by omega
  by_cases m:nb<j+1<;>simp[Bs,c1,c2,c3,m,A,F]
 have c2:¬na<i:=by omega
 have c3:¬nb<j:=by omega
 by_cases G:na<i+1<;>by_cases m:nb<j+1<;>simp[Bs,c2,c3,G,m,g,A]
theorem MH(hst:StOk k D st){i:Nat}(hi:i<=na)(hx:∀i,i<na->x i≠0)(hy:∀j,j<nb->y j≠0){s:TbR × Nat}{U:TbK k}(h:Rt8 k D.n s.1 U):∀j,j<=nb+1->(Bh D st na x nb y i j s).2=0 ->
  s.2=0/\∃U',Rt8 k D.n (Bh D st na x nb y i j s).1 U'/\(phi (rmOf k D) na x nb y i 0 (U i) (U (i+1))=(if i=na/\j=nb+1 then dot D.n (U' na nb) (rmOf k D).fin else zero)+phi (rmOf k D) na x nb y i j (U' i) (U' (i+1)))/\∀i' j',i'≠i->i'≠i+1->U' i' j'=U i' j'
 |0,_,he=>⟨he,U,h,by rw[ifn (by omega),z0],λ_ _ _ _=>rfl⟩
 |j+1,hj,he=>by
  have he':(mvR D na x nb y i j 4 (rsT D st i j (Bh D st na x nb y i j s))).2=0:=he;have h0:(Bh D st na x nb y i j s).2=0:=by
   by_cases e:(Bh D st na x nb y i j s).2=0
   ·exact e
   have:=Hb (D:=D) (st:=st) (na:=na) (x:=x) (nb:=nb) (y:=y) e 1;rw[this]at he;exact absurd he e
  obtain⟨hs0,U1,hU1,hphi,hot⟩:=MH hst hi hx hy h j (by omega) h0;obtain⟨_,U2,f,hU2,hc,hf,hot2⟩:=Tj hV hk hst hi (show j<=nb by omega) hU1 he';refine⟨hs0,U2,hU2,?_,λi' j' h1 h2=>by rw[hot2 i' j' h1 h2,hot i' j' h1 h2]⟩;rw[hphi,ifn (by omega),z0,Cell.phi hx hy (hV.inn k) hc hi (by omega)]
  congr 1
  by_cases e:i=na/\j=nb
  ·obtain⟨rfl,rfl⟩:=e;rw[ifp ⟨rfl,rfl⟩];have hd:=Ug (A:=rmOf k D) (na:=i) (nb:=j) f;rw[hd];exact(BS (n:=D.n) (λp hp=>hf p hp) (λ_ _=>rfl)).symm
  rw[ifn (λh=>e ⟨h.1,by omega⟩)];exact Uf (A:=rmOf k D) f e
theorem QH(hst:StOk k D st)(hx:∀i,i<na->x i≠0)(hy:∀j,j<nb->y j≠0):∀m,m<=na+1->(Bg D st na x nb y m (X0R D,0)).2=0 ->
  ∃U:TbK k,Rt8 k D.n (Bg D st na x nb y m (X0R D,0)).1 U/\(∀i j,m<i->∀p,p<D.n->U i j p=zero)/\(if m<=na then phi (rmOf k D) na x nb y m 0 (U m) (U (m+1))=rel (rmOf k D) (ls x na 0) (ls y nb 0) else dot D.n (U na nb) (rmOf k D).fin=rel (rmOf k D) (ls x na 0) (ls y nb 0))
 |0,_,_=>by
  refine⟨λi j p=>if i=0/\j=0 then (if p=(rmOf k D).start then (rmOf k D).lead else zero) else zero,λi j p hp=>?_,λi j hi p _=>?_,?_⟩
  ·show Sv k (X0R D i j p) _;unfold X0R;by_cases e:i=0/\j=0
   ·rw[ifp e];simp only[ifp e];unfold updS;by_cases e2:p=D.start.toNat
    ·rw[ifp e2,ifp (show p=(rmOf k D).start from e2)];exact FD hk hV.lead
    rw[ifn e2,ifn (show ¬p=(rmOf k D).start from e2)];show Sv k (Af D.kind) zero;rw[<-hk];exact Sv.zero
   rw[ifn e];simp only[ifn e];show Sv k (Af D.kind) zero;rw[<-hk];exact Sv.zero
  ·simp only[ifn (show ¬(i=0/\j=0) by omega)]
  rw[ifp (by omega)];exact Xm (hV.inn k) (hV.stn k) (λp _=>by simp) (λj h1 _ p _=>by simp;omega) (λj _ p _=>by simp)
 |m+1,hm,he=>by
  have he':(Bh D st na x nb y m (nb+1) (Bg D st na x nb y m (X0R D,0))).2=0:=he;have h0:(Bg D st na x nb y m (X0R D,0)).2=0:=by
   by_cases e:(Bg D st na x nb y m (X0R D,0)).2=0
   ·exact e
   have:=Lp (D:=D) (st:=st) (na:=na) (x:=x) (nb:=nb) (y:=y) e 1;rw[this]at he;exact absurd he e
  obtain⟨U,hU,hz,hT⟩:=QH hst hx hy m (by omega) h0;rw[ifp (by omega)]at hT;obtain⟨_,U',hU',hphi,hot⟩:=MH hV hk hst (show m<=na by omega) hx hy hU (nb+1) nlr he';rw[hT]at hphi;have hz':∀i j,m+1<i->∀p,p<D.n->U' i j p=zero:=λi j hi p hp=>by rw[hot i j (by omega) (by omega)];exact hz i j (by omega) p hp
  refine⟨U',hU',hz',?_⟩;by_cases e:m+1<=na
  ·rw[ifp e];rw[ifn (by omega),z0,Xl (show m<na by omega) (next':=U' (m+1+1)) (λj _ p hp=>hz' _ j (by omega) p hp)]at hphi;exact hphi.symm
  rw[ifn e];have hmn:m=na:=by omega
  rw[ifp ⟨hmn,rfl⟩,hmn,Xk,a0]at hphi;exact hphi.symm
theorem z0x(h:StOk k D st)(o:∀i,i<na->x i≠0)(p:∀j,j<nb->y j≠0)(c:(CU D st na x nb y).2=0):Sv k (CU D st na x nb y).1 (rel (rmOf k D) (ls x na 0) (ls y nb 0)):=by
 unfold CU at c ⊢;by_cases d:(Bg D st na x nb y (na+1) (X0R D,0)).2≠0
 ·rw[ifp d]at c;exact absurd c d
 rw[ifn d]at c ⊢;obtain⟨U,m,_,l⟩:=QH hV hk h o p (na+1) nlr (by omega);rw[ifn (by omega)]at l;unfold endR at c ⊢;by_cases g:(finR D ((Bg D st na x nb y (na+1) (X0R D,0)).1 na nb) D.n).2≠0
 ·rw[ifp g]at c;exact absurd c g
 rw[ifn g];rw[<-l];exact JG hV hk (m na nb) D.n nlr (by omega)
end
end
section
open Go.RowKit Go.Deep
def RsE8(n vb:Nat)(z:WS)(w:World)(r:Ending)(w':World):Prop:=Below w.heap.size w w'/\((z.2=0/\∃g,r=.returned (.tuple #[.slice (some (Ad g 0)) n n,.int .i64 0])/\(g=vb\/w.heap.size<=g)/\w'.rowIs g 9 n (λj=>.string (z.1 j)))\/(z.2≠0/\r=.returned (.tuple #[.slice none 0 0,.int .i64 (z.2:Int)])))
theorem StV.below{w d:World}{c:Value}{n:Nat}{st:StarO}(h:StV w c n st)(hb:Below w.heap.size w d):StV d c n st:=by
 cases st with
 |none=>exact h
 |some S=>exact⟨h.1.kept (Ab hb none),h.2⟩
theorem KT{k:Int}{S:Nat->Nat->ByteArray}{v:Nat->ByteArray}{q:Nat}{p:Nat}{s:WS}(h:(rsP8 k S v q p s).2≠0):∀d,rsP8 k S v q (p+d) s=rsP8 k S v q p s
 |0=>rfl
 |d+1=>by
  show (if (rsP8 k S v q (p+d) s).2≠0 then rsP8 k S v q (p+d) s else _)=_
  rw[KT h d,ifp h]
theorem PN{k:Int}{S:Nat->Nat->ByteArray}{v:Nat->ByteArray}{n q:Nat}{s:WS}(h:(rsQ8 k S v n q s).2≠0):∀d,rsQ8 k S v n (q+d) s=rsQ8 k S v n q s
 |0=>rfl
 |d+1=>by
  show rsP8 k S v (q+d) n (rsQ8 k S v n (q+d) s)=_;rw[PN h d];have:=KT (k:=k) (S:=S) (v:=v) (q:=q+d) (p:=0) (s:=rsQ8 k S v n q s) h n;rw[Nat.zero_add]at this;exact this
theorem Py{D:MD}{a:Option Addr}{cp vb:Nat}{v:Nat->ByteArray}{e8:Value}{st:StarO}(w:World)(hV:VM D)(a6:w.rowIs vb 9 D.n (λj=>.string (v j)))(e3:∀j,smS (v j))(h0:StV w e8 D.n st):
  Calls prog 54 #[.agg #[.int .i64 D.kind,.int .i64 D.start,.string D.lead,.slice a D.n cp],.slice (some (Ad vb 0)) D.n D.n,e8] w (RsE8 D.n vb (rest8 D.kind D.n st v) w):=by
 obtain⟨w1,G⟩:=exq<|w.alloc (.cells #[.int .i64 D.kind,.int .i64 D.start,.string D.lead,.slice a D.n cp] 24);have a1:Fr (λ_=>False) w w1:=by rw[G];exact Fr.alloc _ _
 have b1:Below w.heap.size w w1:=a1.below nlr (λ_ e=>e.elim);cases st with
 |none =>
  have i4:e8=.slice none 0 0:=h0;subst i4;have HB:=qh b1;clear b1;have HR:=qh<|a1.row a6 (λe=>e);clear a6 a1;have hq:=λw=>Ed 75 79 underlying75 w none 0 0
  go_enter func54,ntmps54
  go_wp2;go_ret2;rw[<-G];exact⟨HB.o,.inl ⟨rfl,vb,rfl,.inl rfl,HR.o⟩⟩
 |some S =>
  obtain⟨g2,d9⟩:=h0;obtain⟨sa,sc,sb,so,A,C,B,O,rfl,ha,_,_,g9,a2⟩:=g2.open;have i9:=hV.n1;have g3:=hV.n2;obtain rfl:=ha (by omega);clear ha;replace a2:=qh a2;have d1:=qh (g9 (by omega)).1;clear g9;replace d9:=qh d9;clear g2;obtain⟨U,b4⟩:=exq<|w.heap.size;have i5:w1.heap.size=w.heap.size+1:=by rw[G];simp
  have J:BxM w1 U D (.slice a D.n cp):=by rw[G,b4];exact BxM.new w D _
  have hz:=FG (D:=D) (a:=a) (cap:=cp) w1 g3;have HZ:=qh hz;clear hz;have b9:=qh b1;clear b1;have f3:=qh<|a1.row a6 (λe=>e);have i2:=qh a6.lt;have f1:=qh J;obtain⟨kz,b2⟩:=exq<|Af D.kind;replace b2:=qh b2;replace e3:=qh e3;have h8:=qh (show U<w1.heap.size by omega);have f2:=qh (show w.heap.size<=w1.heap.size by omega);obtain⟨m0,m1,m2,m3⟩:_/\_/\_/\_:=⟨cellOf J 0 rfl,cellOf J 1 rfl,cellOf J 2 rfl,cellOf J 3 rfl⟩;clear a6 a1 J i5 hV;have l0:=m0;have l1:=m1;have l2:=m2;have l3:=m3;rw[G,b4]at l0 l1 l2 l3;have hq:=λw=>Ed 75 79 underlying75 w (some (Ad sb so)) D.n sc;rw[show (some ((Ad sb so):Addr)).isNone=false from rfl]at hq;obtain⟨T,R⟩:∃T:WS,T=(zerR D.kind,0):=⟨_,rfl⟩;have g7:rest8 D.kind D.n (some S) v=rsQ8 D.kind S v D.n D.n T:=by rw[R];rfl
  rw[g7];replace R:=qh R;clear g7
  go_enter func54,ntmps54
  go_wp2_with fail
  rw[<-G,<-b4];clear G b4 l0 l1 l2 l3 m0 m1 m2 m3 hq;refine HZ.o.mono ?_;rintro rr w2⟨d6,lb,rfl,g1,g8⟩;have d7:Fr (λ_=>False) w1 w2:=Fr.of_below d6;have m:=qh (show StI w w2 U vb lb D (.slice a D.n cp) v (rsQ8 D.kind S v D.n 0 T).1 from
   ⟨f1.o.kept d7 (λe=>e),d7.row f3.o (λe=>e),by show w2.rowIs lb 9 D.n (λj=>.string (T.1 j));rw[R.o];exact g8,b9.o.trans (d6.mono b9.o.size),Nat.le_trans f2.o g1,by have:=h8.o;omega,by have:=i2.o;have:=f2.o;omega⟩)
  have a7:T.2=0:=by rw[R.o]
  replace a7:=qh a7;clear d6 d7 g1 g8 HZ b9 f1 f3
  go_wp2_with fail
  go_loopw [9] (λv9 wr=>∃q:Nat,q<=D.n/\v9=.int .i64 (q:Int)/\(rsQ8 D.kind S v D.n q T).2=0/\StI w wr U vb lb D (.slice a D.n cp) v (rsQ8 D.kind S v D.n q T).1) (λv9 _=>D.n-(intOf v9).toNat)
  case atStart=>exact⟨0,Nat.zero_le _,rfl,a7.o,m.o⟩
  obtain⟨q,hq,rfl,L,hi⟩:=hrel;clear m;have m:=qh hi;clear hi;by_cases b3:q<D.n
  ·have j1:(q:Int)<(D.n:Int):=by omega
   have i8:(0:Int)<=(q:Int):=by omega
   obtain⟨s0,b6⟩:=exq<|rsQ8 D.kind S v D.n q T;have a4:∀j,smS (s0.1 j):=by rw[b6,R.o];exact KU q (λ_=>Dk D.kind)
   have b5:rsQ8 D.kind S v D.n (q+1) T=rsP8 D.kind S v q D.n s0:=by rw[b6];rfl
   rw[<-b6]at m L;replace b5:=qh b5;clear b6;replace a4:=qh a4;have h6:=qh L;clear L;obtain⟨H,P⟩:=exq<|v q;replace P:=qh P;obtain⟨t0,t1,t2,t3,t4,t5,t6⟩:=a2.o q b3;obtain⟨aq,f5⟩:=exq<|A q;rw[<-f5]at t0 t3;replace t0:=qh t0;have h9:=qh<|t3 (by omega);clear t3;have d2:=qh (t4 (by omega)).1;clear t4;replace t6:=qh t6;clear t5 t1 t2 f5
   go_wp2_with fail
   go_loopw [10] (λe9 wr=>∃p:Nat,p<=D.n/\e9=.int .i64 (p:Int)/\(rsP8 D.kind S v q p s0).2=0/\StI w wr U vb lb D (.slice a D.n cp) v (rsP8 D.kind S v q p s0).1) (λe9 _=>D.n-(intOf e9).toNat)
   case atStart=>exact⟨0,Nat.zero_le _,rfl,h6.o,m.o⟩
   obtain⟨p,hp,rfl,F,hi⟩:=hrel;clear m;by_cases d8:p<D.n
   ·have j0:(p:Int)<(D.n:Int):=by omega
    have i7:(0:Int)<=(p:Int):=by omega
    obtain⟨s1,b7⟩:=exq<|rsP8 D.kind S v q p s0;have a5:∀j,smS (s1.1 j):=by rw[b7];exact KS p a4.o
    obtain⟨x,hx⟩:=exq<|S q p;have e6:smS x:=by rw[hx];exact d9.o q p b3 d8
    rw[<-b7]at hi F;have a3:rsP8 D.kind S v q (p+1) s0=if H=kz\/x=kz then s1 else addR D.kind s1.1 p H x:=by
     show (if (rsP8 D.kind S v q p s0).2≠0 then rsP8 D.kind S v q p s0 else _)=_
     rw[<-b7,ifn (by omega),hx,P.o,b2.o]
    have c6:=t6.o p d8;rw[<-hx]at c6;have g:=qh a3;clear a3 b7 hx;replace a5:=qh a5;replace e6:=qh e6;have h7:=qh F;clear F;have m:=qh hi;clear hi;have c7:=qh c6;clear c6;obtain rfl:=h9.o;have Z:∀W,Fr (λ_=>False) wr W->(λh:World=>h.cell? (Ad vb q)=some (.string H)/\h.cell? (Ad U 0)=some (.int .i64 D.kind)/\h.cell? (Ad sb (so+q))=some (.slice (some (Ad (B q) (O q))) D.n (C q))/\h.cell? (Ad (B q) (O q+p))=some (.string x)) W:=λW hf=>by
     have Y:=m.o.be.trans<|hf.below m.o.be.size (λ_ e=>e.elim);exact⟨hf.cell (by rw[P.o];exact m.o.rv.cell b3) (λe=>e),hf.cell (cellOf m.o.bx 0 rfl) (λe=>e),(Y.cell (p:=(Ad sb (so+q))) d1.o).trans t0.o,(Y.cell (p:=(Ad (B q) (O q+p))) d2.o).trans c7.o⟩
    have l:=qh Z;clear Z;obtain⟨wd,e4⟩:=exq<|wr.drew;have f9:Fr (λ_=>False) wr wd:=by rw[e4];exact Fr.of_below<|(Below.refl wr.heap.size wr).drew
    have d0:=qh f9;clear f9;have e7:=λW=>DJ D.kind W;rw[<-b2.o]at e7;have d4:=qh e7;clear e7
    go_wp2_with fail
    have E:=l.o wd d0.o;refine Au (λh:World=>h.cell? (Ad vb q)=some (.string H)/\h.cell? (Ad U 0)=some (.int .i64 D.kind)/\h.cell? (Ad sb (so+q))=some (.slice (some (Ad (B q) (O q))) D.n (C q))/\h.cell? (Ad (B q) (O q+p))=some (.string x)) 20 (by kernel_rfl) ?_;rw[<-e4];clear e4;refine Aa.tm 0 E ?_;refine Aa.tm 1 E ?_;refine Aa.tm 2 E ?_;refine Aa.tm 3 E ?_;refine Aa.tm 4 E ?_;refine Aa.tm 5 E ?_
    try simp only[Act.put,tryL]
    refine Aa.on 6 λK o=>?_;go_simp;refine(d4.o wd).mono ?_;rintro rr w3⟨rfl,f7⟩;have a8:=qh<|d0.o.trans (Fr.of_below f7);have c:=l.o w3 a8.o;clear f7 E;refine o.out _ _ (.inr c) ?_;clear o K
    try simp only[Act.put,tryL]
    refine Aa.tm 7 c ?_;refine Aa.tm 8 c ?_
    try simp only[Act.put,tryL]
    cases hO:(H.toList==kz.toList)
    focus
     have e0:¬H=kz:=λe=>by rw[e]at hO;simp at hO
     refine Aa.tm 9 c ?_;refine Aa.tm 10 c ?_;refine Aa.tm 11 c ?_;refine Aa.tm 12 c ?_;refine Aa.tm 13 c ?_;refine Aa.tm 14 c ?_;refine Aa.tm 15 c ?_;refine Aa.tm 16 c ?_;refine Aa.tm 17 c ?_
     try simp only[Act.put,tryL]
     refine Aa.on 18 λK o=>?_;go_simp;refine(d4.o w3).mono ?_;rintro rr w4⟨rfl,f8⟩;have c9:=qh<|a8.o.trans (Fr.of_below f8);have b0:=l.o w4 c9.o;clear f8 c;refine o.out _ _ (.inr b0) ?_;clear o K
     try simp only[Act.put,tryL]
     refine Aa.tm 19 b0 ?_
     try simp only[Act.put,tryL]
     refine Aa.on 20 λK o=>?_;go_simp;refine o.out _ _ (.inl rfl) (Aa.dn ?_);clear o K;cases hX:(x.toList==kz.toList)
     ·have h5:¬x=kz:=λe=>by rw[e]at hX;simp at hX
      have HN:=qh<|g.o.trans (ifn (λe=>e.elim e0 h5));clear e0 h5 g;have i:=qh<|m.o.new c9.o;clear b0 l m a8 d0 d4;obtain⟨z,hz⟩:=exq<|addR D.kind s1.1 p H x;rw[<-hz]at HN;have b8:smS H:=by rw[P.o];exact e3.o q
      have d5:=λW (hf:Fr (λ_=>False) w4 W)=>FH (k:=D.kind) (t:=p) (a:=H) (b:=x) W ((i.o.new hf).rl) d8 g3 (a5.o p) b8 e6.o;rw[<-hz]at d5;have f0:=qh d5;clear d5 hz b8;have Z:∀W,Fr (λ_=>False) w4 W->(λh:World=>h.cell? (Ad vb q)=some (.string H)/\h.cell? (Ad U 0)=some (.int .i64 D.kind)/\h.cell? (Ad sb (so+q))=some (.slice (some (Ad (B q) (O q))) D.n (C q))/\h.cell? (Ad (B q) (O q+p))=some (.string x)) W:=λW hf=>by
       have Y:=i.o.be.trans<|hf.below i.o.be.size (λ_ e=>e.elim);exact⟨hf.cell (by rw[P.o];exact i.o.rv.cell b3) (λe=>e),hf.cell (cellOf i.o.bx 0 rfl) (λe=>e),(Y.cell (p:=(Ad sb (so+q))) d1.o).trans t0.o,(Y.cell (p:=(Ad (B q) (O q+p))) d2.o).trans c7.o⟩
      have l:=qh Z;clear Z c7;obtain⟨we,e5⟩:=exq<|w4.drew;have g0:Fr (λ_=>False) w4 we:=by rw[e5];exact Fr.of_below<|(Below.refl w4.heap.size w4).drew
      have a9:=qh g0;clear g0
      go_wp2_with fail
      have d:=l.o we a9.o;refine Au (λh:World=>h.cell? (Ad vb q)=some (.string H)/\h.cell? (Ad U 0)=some (.int .i64 D.kind)/\h.cell? (Ad sb (so+q))=some (.slice (some (Ad (B q) (O q))) D.n (C q))/\h.cell? (Ad (B q) (O q+p))=some (.string x)) 16 (by kernel_rfl) ?_;rw[<-e5];clear e5;refine Aa.tm 0 d ?_;refine Aa.tm 1 d ?_;refine Aa.tm 2 d ?_;refine Aa.tm 3 d ?_;refine Aa.tm 4 d ?_;refine Aa.tm 5 d ?_;refine Aa.tm 6 d ?_;refine Aa.tm 7 d ?_;refine Aa.tm 8 d ?_;refine Aa.tm 9 d ?_;refine Aa.tm 10 d ?_;refine Aa.tm 11 d ?_;refine Aa.tm 12 d ?_;refine Aa.tm 13 d ?_;refine Aa.tm 14 d ?_
      try simp only[Act.put,tryL]
      refine Aa.on 15 λK o=>?_;go_simp;refine(f0.o we a9.o).mono ?_;rintro rr w5⟨rfl,g6,N⟩;have u:=(i.o.new a9.o).upd N g6;have f4:(λh:World=>h.cell? (Ad vb q)=some (.string H)/\h.cell? (Ad U 0)=some (.int .i64 D.kind)/\h.cell? (Ad sb (so+q))=some (.slice (some (Ad (B q) (O q))) D.n (C q))/\h.cell? (Ad (B q) (O q+p))=some (.string x)) w5 :=
       ⟨N.cell d.1 u.vl,N.cell d.2.1 u.ml,N.cell d.2.2.1 (by have:=d1.o;have:=u.ll;show ¬sb=lb;omega),N.cell d.2.2.2 (by have:=d2.o;have:=u.ll;show ¬B q=lb;omega)⟩
      replace u:=qh u;clear g6 N f0 l a9 i;refine o.out _ _ (.inr f4) ?_;clear o K d
      try simp only[Act.put,tryL]
      refine Aa.on 16 λK o=>?_;go_simp;refine o.out _ _ (.inl rfl) (Aa.dn ?_);clear o K f4;by_cases Q:z.2=0
      ·have i6:(z.2:Int)=0:=by omega
       have d3:=qh Q;clear Q;go_wp2;go_roundw
       case rel=>exact⟨p+1,by omega,by go_num,by rw[HN.o];exact d3.o,by rw[HN.o];exact u.o⟩
       simp[intOf];omega
      have i6:¬((z.2:Int)=0):=by omega
      have j2:((z.2:Int)==0)=false:=by simp;omega
      have j3:decide ((z.2:Int)=0)=false:=by simp;omega
      have I:rsQ8 D.kind S v D.n D.n T=z:=by
       have e1:rsP8 D.kind S v q D.n s0=z:=by
        have h1:=KT (k:=D.kind) (S:=S) (v:=v) (q:=q) (p:=p+1) (s:=s0) (by rw[HN.o];exact Q) (D.n-(p+1));rw[show p+1+(D.n-(p+1))=D.n by omega,HN.o]at h1;exact h1
       have e2:rsQ8 D.kind S v D.n (q+1) T=z:=b5.o.trans e1;have h2:=PN (k:=D.kind) (S:=S) (v:=v) (n:=D.n) (q:=q+1) (s:=T) (by rw[e2];exact Q) (D.n-(q+1));rw[show q+1+(D.n-(q+1))=D.n by omega,e2]at h2;exact h2
      replace I:=qh I;have d3:=qh Q;clear Q;go_wp2;go_ret2;exact⟨u.o.be,.inr ⟨by rw[I.o];exact d3.o,by rw[I.o];rfl⟩⟩
     have h4:x=kz:=toList_eq hX;have HN:=qh<|g.o.trans (ifp (.inr h4));clear e0 h4 g;have i:=qh<|m.o.new c9.o;clear b0 l m
    rotate_left
    focus
     have h3:H=kz:=toList_eq hO;have HN:=qh<|g.o.trans (ifp (.inl h3));clear h3 g;refine Aa.ts 9 c ?_;refine Aa.ts 10 c ?_;refine Aa.ts 11 c ?_;refine Aa.ts 12 c ?_;refine Aa.ts 13 c ?_;refine Aa.ts 14 c ?_;refine Aa.ts 15 c ?_;refine Aa.ts 16 c ?_;refine Aa.ts 17 c ?_;refine Aa.ts 18 c ?_;refine Aa.ts 19 c ?_
     try simp only[Act.put,tryL]
     refine Aa.on 20 λK o=>?_;go_simp;refine o.out _ _ (.inl rfl) (Aa.dn ?_);clear o K;have i:=qh<|m.o.new a8.o;clear c l m
    all_goals
     go_wp2;go_roundw
     case rel=>exact⟨p+1,by omega,by go_num,by rw[HN.o];exact h7.o,by rw[HN.o];exact i.o⟩
     simp[intOf];omega
   have g4:p=D.n:=by omega
   have i3:¬((p:Int)<(D.n:Int)):=by omega
   rw[g4]at hi F;rw[<-b5.o]at hi F;have X:=qh hi;clear hi;have c8:=qh F;clear F g4;go_wp2;go_roundw
   case rel=>exact⟨q+1,by omega,by go_num,c8.o,X.o⟩
   simp[intOf];omega
  have g5:q=D.n:=by omega
  have i3:¬((q:Int)<(D.n:Int)):=by omega
  have h1:=m.o;rw[g5]at h1 L;have X:=qh h1;clear h1;have c8:=qh L;clear L g5;go_wp2;go_ret2;exact⟨X.o.be,.inl ⟨c8.o,lb,rfl,.inr X.o.ll,X.o.rl⟩⟩
end
end Go.Proofs.YteappjogmnogcaaGreatDoor
