/- Parts. -/
import Derived.Test.YtpldocnhbdlgfaaGreatDoorPc35
import Derived.Test.YtpldocnhbdlgfaaGreatDoorPc25
import Derived.Test.YtpldocnhbdlgfaaGreatDoorPc34
import Derived.Test.YtpldocnhbdlgfaaGreatDoorPc36
import Derived.Test.YtpldocnhbdlgfaaGreatDoorPc31
namespace Go.Proofs.YtpldocnhbdlgfaaGreatDoor
set_option maxRecDepth 100000
set_option linter.all false
set_option maxHeartbeats 16000000
open Go Tryz
section
open Go.RowKit Go.Deep
def sel8(lo:Bool)(i o:Int):Bool:=decide (i=0)&&(decide (o=0)||lo)
theorem WA:sel8 false=silB:=by funext i o;unfold sel8 silB;simp
def sr8(D:MD)(sel:Int->Int->Bool)(q:Nat):Nat->Nat->ByteArray
 |0=>zerR D.kind
 |d+1=>if sel (D.ain q d) (D.aout q d)=true then updS (sr8 D sel q d) (D.ato q d).toNat (Ap D.kind (sr8 D sel q d (D.ato q d).toNat) (D.aw q d)).1 else sr8 D sel q d
def so8(D:MD)(sel:Int->Int->Bool)(q d:Nat):Prop:=∀d',d' < d->sel (D.ain q d') (D.aout q d')=true->(Ap D.kind (sr8 D sel q d' (D.ato q d').toNat) (D.aw q d')).2=0
def sm8(D:MD)(sel:Int->Int->Bool)(q:Nat):Nat->ByteArray:=sr8 D sel q (D.na q)
theorem HL{D:MD}{sel:Int->Int->Bool}{q:Nat}:∀d j,smS (sr8 D sel q d j)
 |0,_=>El D.kind
 |d+1,j=>by
  unfold sr8
  split
  ·exact Il (HL d) (JK _ _ _) j
  exact HL d j
def Sil8(D:MD)(sel:Int->Int->Bool)(st:StarO)(e:Nat):Prop :=
 (NoSel D sel/\st=none/\e=0)\/
 (D.n<=60/\e=0/\¬NoSel D sel/\∃S,st=some S/\∀k:KK,k.1=D.kind->∀q p,q<D.n->p<D.n->Sv k (S q p) (CSR.starM (sils (rmOf k D) sel) D.n q p))\/
 (e≠0/\st=none/\¬NoSel D sel)
theorem Sil8.st{D:MD}{st:StarO}(h:Sil8 D silB st 0){k:KK}(o:k.1=D.kind):StOk k D st:=by
 rcases h with⟨d,rfl,_⟩|⟨_,_,_,S,rfl,m⟩|⟨d,_⟩
 ·intro q p c g;rw[<-OI];exact SilOk.nosil d k q p c
 ·intro q p c g;have l:=m k o q p c g;rw[CSR.starM_congr (M':=sil (rmOf k D)) (λi j _ _=>OI _ i j) q p c g]at l;exact l
 exact absurd rfl d
section
open CSR
variable{D:MD}(hV:VM D){k:KK}(hk:k.1=D.kind)
include hV hk
theorem ON{sel:Int->Int->Bool}{q:Nat}(hq:q<D.n):∀(d:Nat),d<=D.na q->so8 D sel q d ->
  ∀p,p<D.n->Sv k (sr8 D sel q d p) (sum (λd=>if sel ((rmOf k D).ain q d) ((rmOf k D).aout q d)=true/\(rmOf k D).ato q d=p then (rmOf k D).aw q d else zero) d)
 |0,_,_=>λp hp=>by
  show Sv k (Ak D.kind) zero;rw[<-hk];exact Sv.zero
 |d+1,hd,ho=>λp hp=>by
  have ih:=ON hq (sel:=sel) d (by omega) (λd' h=>ho d' (by omega));have ha:=hV.arc q d hq (by omega);have ht:(D.ato q d).toNat<D.n:=by have:=ha.t0;have:=ha.t1;omega
  have hw:=Ip hk ha.wt;show Sv k _ (sum _ d+(if sel (D.ain q d) (D.aout q d)=true/\(D.ato q d).toNat=p then wval k (D.aw q d) else zero))
  unfold sr8;by_cases hm:sel (D.ain q d) (D.aout q d)=true
  ·rw[ifp hm];have h0:=ho d (by omega) hm;have h1:(Ap k.1 (sr8 D sel q d (D.ato q d).toNat) (D.aw q d)).2=0:=(congrArg (λz=>(Ap z (sr8 D sel q d (D.ato q d).toNat) (D.aw q d)).2) hk).trans h0;have h2:=JL (ih _ ht) hw h1;have h3:(Ap k.1 (sr8 D sel q d (D.ato q d).toNat) (D.aw q d)).1=(Ap D.kind (sr8 D sel q d (D.ato q d).toNat) (D.aw q d)).1:=congrArg (λz=>(Ap z (sr8 D sel q d (D.ato q d).toNat) (D.aw q d)).1) hk;rw[h3]at h2;unfold updS;by_cases e:p=(D.ato q d).toNat
   ·rw[ifp e,ifp ⟨hm,e.symm⟩,e];exact h2
   rw[ifn e,ifn (λh=>e h.2.symm),a0];exact ih p hp
  rw[ifn hm,ifn (λh=>hm h.1),a0];exact ih p hp
theorem OJ{sel:Int->Int->Bool}(d:∀q,q<D.n->so8 D sel q (D.na q)){q p:Nat}(c:q<D.n)(g:p<D.n):Sv k (sm8 D sel q p) (sils (rmOf k D) sel q p):=ON hV hk c (D.na q) nlr (d q c) p g
theorem WJ{sel:Int->Int->Bool}(g:∀q,q<D.n->so8 D sel q (D.na q)):Sq D.kind D.n (λ_=>D.n) (sm8 D sel):=λi hi=>⟨rfl,λj d=>by
 have h:=OJ hV hk g hi d;have c:vprs D.kind (sm8 D sel i j)=some (sils (rmOf k D) sel i j).1:=(congrArg (λz=>vprs z (sm8 D sel i j)) hk).symm.trans h.prs;unfold Aj;rw[c];rfl⟩
end
structure S8I(D:MD)(sel:Int->Int->Bool)(w wr:World)(mb g:Nat)(sv:Value)(rb:Nat->Nat)(q:Nat):Prop where
 bx:BxM wr mb D sv
 be:Below w.heap.size w wr
 gr:wr.rowIs g 100 D.n (λi=>if i<q then .slice (some (Ad (rb i) 0)) D.n D.n else .slice none 0 0)
 rows:∀i,i<q->wr.rowIs (rb i) 9 D.n (λj=>.string (sm8 D sel i j))
 gl:w.heap.size<=g
 mg:mb≠g
structure S8R(D:MD)(sel:Int->Int->Bool)(w wr:World)(mb g:Nat)(sv:Value)(rb:Nat->Nat)(q lb:Nat)(l:Nat->ByteArray):Prop where
 bx:BxM wr mb D sv
 be:Below w.heap.size w wr
 gr:wr.rowIs g 100 D.n (λi=>if i<q+1 then .slice (some (Ad (if i=q then lb else rb i) 0)) D.n D.n else .slice none 0 0)
 rows:∀i,i<q->wr.rowIs (rb i) 9 D.n (λj=>.string (sm8 D sel i j))/\rb i≠lb
 rl:wr.rowIs lb 9 D.n (λj=>.string (l j))
 gl:w.heap.size<=g
 mg:mb≠g
 ll:w.heap.size<=lb
 ml:mb≠lb
 nl:g≠lb
section
variable{D:MD}{sel:Int->Int->Bool}{w wr wz:World}{mb g lb q:Nat}{sv:Value}{rb:Nat->Nat}{l:Nat->ByteArray}
def S8I.new(h:S8I D sel w wr mb g sv rb q)(hf:Fr (λ_=>False) wr wz):S8I D sel w wz mb g sv rb q :=
 ⟨h.bx.kept hf (λe=>e),h.be.trans (hf.below h.be.size (λ_ e=>e.elim)),hf.row h.gr (λe=>e),λi hi=>hf.row (h.rows i hi) (λe=>e),h.gl,h.mg⟩
def S8R.new(h:S8R D sel w wr mb g sv rb q lb l)(hf:Fr (λ_=>False) wr wz):S8R D sel w wz mb g sv rb q lb l :=
 ⟨h.bx.kept hf (λe=>e),h.be.trans (hf.below h.be.size (λ_ e=>e.elim)),hf.row h.gr (λe=>e),λi hi=>⟨hf.row (h.rows i hi).1 (λe=>e),(h.rows i hi).2⟩,hf.row h.rl (λe=>e),h.gl,h.mg,h.ll,h.ml,h.nl⟩
def S8I.lay(h:S8I D sel w wr mb g sv rb q)(hf:Fr (λ_=>False) wr wz)(B:wr.heap.size<=lb)(z:wz.rowIs lb 9 D.n (λj=>.string (zerR D.kind j))):S8R D sel w (wz.setCell (Ad g q) (.slice (some (Ad lb 0)) D.n D.n)) mb g sv rb q lb (sr8 D sel q 0):=by
 have d:=h.new hf;have s:=h.gr.lt;have k:Fr (λc=>c=g) wz (wz.setCell (Ad g q) (.slice (some (Ad lb 0)) D.n D.n)):=(Fr.refl (λc=>c=g) wz).set (p:=(Ad g q)) (.inl rfl) _;have u:mb<wr.heap.size:=(Array.getElem?_eq_some_iff.1 (show wr.heap[mb]?=_ from h.bx)).1;refine⟨d.bx.kept k d.mg,d.be.trans (k.below d.be.size (λc e=>by rw[e];exact h.gl)),(d.gr.set q _).congr (λi _=>?_),λi hi=>⟨k.row (d.rows i hi) (λe=>?_),λe=>?_⟩,k.row z (λe=>?_),h.gl,h.mg,?_,?_,?_⟩
 ·show _=if i<q+1 then _ else _
  by_cases e:i=q
  ·subst e;simp
  by_cases m:i<q
  ·simp[e,m,show i<q+1 by omega]
  simp[e,m,show ¬i<q+1 by omega]
 ·have l:=(d.rows i hi);rw[e]at l;obtain⟨A,o,_⟩:=d.gr;exact Wd l o (by decide) rfl
 ·have l:=(h.rows i hi).lt;omega
 ·omega
 ·have:=h.be.size;omega
 ·omega
 omega
theorem S8R.put(h:S8R D sel w wr mb g sv rb q lb l)(t:Nat)(s:ByteArray):S8R D sel w (wr.setCell (Ad lb t) (.string s)) mb g sv rb q lb (updS l t s):=by
 have d:Fr (λc=>c=lb) wr (wr.setCell (Ad lb t) (.string s)):=(Fr.refl (λc=>c=lb) wr).set (p:=(Ad lb t)) (.inl rfl) _;refine⟨h.bx.kept d h.ml,h.be.trans (d.below h.be.size (λc e=>by rw[e];exact h.ll)),d.row h.gr h.nl,λi hi=>⟨d.row (h.rows i hi).1 (h.rows i hi).2,(h.rows i hi).2⟩,(h.rl.set t _).congr (λj _=>?_),h.gl,h.mg,h.ll,h.ml,h.nl⟩;show _=Value.string (updS l t s j);unfold updS;by_cases e:j=t
 ·rw[ifp e,ifp e]
 rw[ifn e,ifn e]
theorem S8R.done(h:S8R D sel w wr mb g sv rb q lb (sr8 D sel q (D.na q))):S8I D sel w wr mb g sv (λi=>if i=q then lb else rb i) (q+1) :=
 ⟨h.bx,h.be,h.gr,λi hi=>by
  by_cases e:i=q
  ·subst e;simp only[if_pos];exact h.rl
  simp only[ifn e];exact(h.rows i (by omega)).1,h.gl,h.mg⟩
def S8I.mt(h:S8I D sel w wr mb g sv rb D.n)(hn:D.n<=60):Mt none wr (.slice (some (Ad g 0)) D.n D.n) D.n (λ_=>D.n) (sm8 D sel):=by
 refine⟨λi=>.slice (some (Ad (rb i) 0)) D.n D.n,?_,λi hi=>?_⟩
 ·refine .inr ⟨g,0,D.n,rfl,⟨h.gr.lt,by simp⟩,nlr,by unfold maxLen;omega,λi hi=>?_⟩;have c:=h.gr.cell hi;rw[ifp hi]at c;rw[Nat.zero_add];exact c
 have d:=h.rows i hi;exact .inr ⟨rb i,0,D.n,rfl,⟨d.lt,by simp⟩,nlr,by unfold maxLen;omega,λj k=>by rw[Nat.zero_add];exact d.cell k⟩
end
def SlE8(D:MD)(sel:Int->Int->Bool)(w:World)(r:Ending)(w':World):Prop:=Below w.heap.size w w'/\∃v st e,r=.returned (.tuple #[v,.int .i64 (e:Nat)])/\StV w' v D.n st/\Sil8 D sel st e
def WI{D:MD}{sv:Value}{lo:Bool}(w:World)(hV:VM D)(hD:StS none w sv D)(g2:∀i k,smS (D.aw i k)):
  Calls prog 62 #[.agg #[.int .i64 D.kind,.int .i64 D.start,.string D.lead,sv],.bool lo] w (SlE8 D (sel8 lo) w):=by
 obtain⟨a,cp,b,g5,A,C,BB,O,rfl,ha,hc,hm,hb,d0⟩:=hD.open;unfold maxLen at hm;have l5:D.n<=3000:=hV.n2;have l4:=run_make_row' (P:=prog) 96 100 (.slice none 0 0) 24 underlying96 Jk rfl .i64 .i64 D.n (by omega) (by omega);obtain⟨w1,b4⟩:=exq<|w.alloc (.cells #[.int .i64 D.kind,.int .i64 D.start,.string D.lead,.slice a D.n cp] 25);obtain⟨mb,d7⟩:=exq<|w.heap.size;have j7:w1.heap.size=w.heap.size+1:=by rw[b4];simp
 have i6:Fr (λ_=>False) w w1:=by rw[b4];exact Fr.alloc _ _
 have f5:BxM w1 mb D (.slice a D.n cp):=by rw[b4,d7];exact BxM.new w D _
 obtain⟨w2,e0⟩:=exq<|w1.alloc (.cells (madeCells #[.slice none 0 0] D.n) 100);obtain⟨g,hg⟩:=exq<|w.heap.size+1;have f8:Fr (λ_=>False) w1 w2:=by rw[e0];exact Fr.alloc _ _
 have j3:w2.rowIs g 100 D.n (λ_=>.slice none 0 0):=by rw[e0,hg,<-j7];exact World.rowIs_made w1 _ _ _
 obtain⟨sel,X⟩:=exq<|sel8 lo;have o:=qh (show S8I D sel w w2 mb g (.slice a D.n cp) (λ_=>0) 0 from ⟨f5.kept f8 (λe=>e),(i6.trans f8).below nlr (λ_ e=>e.elim),j3.congr (λi _=>by simp),λi hi=>absurd hi (Nat.not_lt_zero _),by omega,by omega⟩);rw[<-X];replace X:=qh X;replace hV:=qh hV;replace ha:=qh ha;replace hb:=qh hb;replace d0:=qh d0;clear hD;replace g2:=qh g2;have m3:=cellOf f5 3 rfl;have l3:=m3;rw[b4,d7]at l3;clear i6 f8 j3 f5 hc j7
 go_enter func62,ntmps62
 go_wp2_with fail
 rw[<-b4,<-e0,<-hg,<-d7];clear b4 e0 hg d7 m3 l3 l4
 go_loopw [7,8] (λv7 v8 wr=>∃(q:Nat) (bb:Bool) (rb:Nat->Nat),q<=D.n/\v7=.bool bb/\v8=.int .i64 (q:Int)/\S8I D sel w wr mb g (.slice a D.n cp) rb q/\((bb=false->∀s d,s<q->d<D.na s->sel (D.ain s d) (D.aout s d)=false)/\(bb=true->¬NoSel D sel))/\(∀s,s<q->so8 D sel s (D.na s))) (λ_ v8 _=>D.n-(intOf v8).toNat)
 case atStart=>exact⟨0,false,_,Nat.zero_le _,rfl,rfl,o.o,⟨λ_ s d h=>absurd h (Nat.not_lt_zero _),λe=>by cases e⟩,λs h=>absurd h (Nat.not_lt_zero _)⟩
 obtain⟨q,bb,rb,hq,rfl,rfl,hi,B,d1⟩:=hrel;clear o;have o:=qh hi;clear hi;have e9:=qh B;clear B;have h6:=qh d1;clear d1;by_cases b9:q<D.n
 ·have n9:(q:Int)<(D.n:Int):=by omega
  have m8:(0:Int)<=(q:Int):=by omega
  obtain rfl:=ha.o (by omega);have k9:=(hb.o (by omega)).1;obtain⟨k1,k2,k3,k4,k5,k6,k7⟩:=d0.o q b9;unfold maxLen at k4;have m7:D.na q<=30000:=by have H:=Nat.le_trans (DR D (show q+1<=D.n by omega)) hV.o.arcs;have I:Ai D (q+1)=Ai D q+D.na q:=rfl;omega
  obtain⟨aq,h9⟩:=exq<|A q;rw[<-h9]at k2 k5;replace k2:=qh k2;replace k5:=qh k5;replace k6:=qh k6;replace k7:=qh k7;clear h9 k1;have m0:=cellOf o.o.bx 0 rfl;have m1:=cellOf o.o.bx 1 rfl;have m2:=cellOf o.o.bx 2 rfl;have m3:=cellOf o.o.bx 3 rfl;have HZ:=qh<|Iv (D:=D) (a:=some (Ad b g5)) (cap:=cp) wr l5
  go_wp2_with fail
  refine HZ.o.mono ?_;rintro rr w3⟨i3,lb,rfl,i9,j4⟩;have f9:Fr (λ_=>False) wr w3:=Fr.of_below i3;have g1:=f9.row o.o.gr (λe=>e);have c0:=g1.cell b9;have f0:=g1.frozen q;have g0:=o.o.lay f9 i9 j4;clear i3 f9 i9 j4 HZ m0 m1 m2 m3 g1;obtain⟨w4,g3⟩:=exq<|w3.setCell ⟨g,q,none⟩ (.slice (some ⟨lb,0,none⟩) D.n D.n);rw[<-g3]at g0;clear o;have o:=qh g0;clear g0
  go_wp2_with fail
  rw[<-g3];clear g3 c0 f0
  go_loopw [7,9] (λv7 v9 wr=>∃(d:Nat) (bb:Bool),d<=D.na q/\v7=.bool bb/\v9=.int .i64 (d:Int)/\S8R D sel w wr mb g (.slice (some (Ad b g5)) D.n cp) rb q lb (sr8 D sel q d)/\((bb=false->(∀s d,s<q->d<D.na s->sel (D.ain s d) (D.aout s d)=false)/\∀F,F<d->sel (D.ain q F) (D.aout q F)=false)/\(bb=true->¬NoSel D sel))/\so8 D sel q d) (λ_ v9 _=>D.na q-(intOf v9).toNat)
  case atStart=>exact⟨0,bb,Nat.zero_le _,rfl,rfl,o.o,⟨λe=>⟨e9.o.1 e,λF h=>absurd h (Nat.not_lt_zero _)⟩,e9.o.2⟩,λF h=>absurd h (Nat.not_lt_zero _)⟩
  obtain⟨d,b2,hd,rfl,rfl,hi,B,d1⟩:=hrel;clear o;have o:=qh hi;clear hi;have R:=qh B;clear B;have e3:=qh d1;clear d1;have m3:=cellOf o.o.bx 3 rfl;have c1:=(o.o.be.cell (p:=(Ad b (g5+q*2+1))) k9).trans k2.o;by_cases f7:d<D.na q
  ·have n7:(d:Int)<(D.na q:Int):=by omega
   have m5:(0:Int)<=(d:Int):=by omega
   have d6:=(k6.o (by omega)).1;obtain⟨t0,t1,t2,t3⟩:=k7.o d f7;obtain rfl:=k5.o (by omega);have c2:=(o.o.be.cell (p:=(Ad (BB q) (O q+d*4))) d6).trans t0;have c3:=(o.o.be.cell (p:=(Ad (BB q) (O q+d*4+1))) d6).trans t1;have c4:=(o.o.be.cell (p:=(Ad (BB q) (O q+d*4+2))) d6).trans t2;have c5:=(o.o.be.cell (p:=(Ad (BB q) (O q+d*4+3))) d6).trans t3;clear t0 t1 t2 t3;have b7:=hV.o.arc q d b9 f7;obtain⟨t,ht⟩:∃t:Nat,D.ato q d=(t:Int):=⟨(D.ato q d).toNat,by have:=b7.t0;omega⟩;have l7:t<D.n:=by have:=b7.t1;omega
   have o2:(t:Int)<(D.n:Int):=by omega
   have m9:(0:Int)<=(t:Int):=by omega
   rw[ht]at c5;obtain⟨l,hl⟩:=exq<|sr8 D sel q d;have l2:∀j,smS (l j):=by rw[hl];exact HL d
   have j0:sr8 D sel q (d+1)=if sel (D.ain q d) (D.aout q d)=true then updS l t (Ap D.kind (l t) (D.aw q d)).1 else l:=by
    show (if _ then updS (sr8 D sel q d) (D.ato q d).toNat _ else sr8 D sel q d)=_
    rw[ht,Int.toNat_natCast,<-hl]
   have j1:∀F,F<d+1->(F=d->sel (D.ain q d) (D.aout q d)=true->(Ap D.kind (l t) (D.aw q d)).2=0)->sel (D.ain q F) (D.aout q F)=true->(Ap D.kind (sr8 D sel q F (D.ato q F).toNat) (D.aw q F)).2=0:=λF H I h3=>by
    by_cases e:F=d
    ·subst e;rw[ht,Int.toNat_natCast,<-hl];exact I rfl h3
    exact e3.o F (by omega) h3
   rw[<-hl]at o;have a1:=qh j0;clear j0 hl;have a4:=qh j1;clear j1 b7;obtain⟨ai,f3⟩:=exq<|D.ain q d;obtain⟨ao,b6⟩:=exq<|D.aout q d;obtain⟨aw,f4⟩:=exq<|D.aw q d;have i2:smS aw:=by rw[f4];exact g2.o q d
   rw[<-f3]at c2 a1 a4;rw[<-b6]at c3 a1 a4;rw[<-f4]at c4 a1 a4;have e6:=qh b6;clear b6;have e5:=qh f3;clear f3 f4 ht;obtain⟨w5,N⟩:=exq<|wr.alloc (.cells #[.int .i64 ai,.int .i64 ao,.string aw,.int .i64 (t:Int)] 59);obtain⟨xb,b5⟩:=exq<|wr.heap.size;have i7:Fr (λ_=>False) wr w5:=by rw[N];exact Fr.alloc _ _
   have e1:w5.heap[xb]?=some (.cells #[.int .i64 ai,.int .i64 ao,.string aw,.int .i64 (t:Int)] 59 (0,0)):=by rw[N,b5];exact han wr _
   have i8:=o.o.new i7;clear o;have o:=qh i8;clear i8;have x0:=cellOf e1 0 rfl;have x1:=cellOf e1 1 rfl;have h7:=qh e1;rw[N,b5]at x0 x1;clear i7 e1;by_cases u:sel ai ao=true
   ·have d5:=qh (show ¬NoSel D sel from λhn=>by have H:=hn q d b9 f7;rw[<-e5.o,<-e6.o,u]at H;cases H);have a5:ai=0/\(ao=0\/(¬ao=0/\lo=true)):=by
     rw[X.o]at u;unfold sel8 at u;simp only[Bool.and_eq_true,Bool.or_eq_true,decide_eq_true_eq]at u;refine⟨u.1,?_⟩;by_cases e:ao=0
     ·exact .inl e
     exact .inr ⟨e,u.2.resolve_left e⟩
    have U:=a1.o;rw[ifp u]at U;have b3:(Ap D.kind (l t) aw).2=0->so8 D sel q (d+1):=λh F H I=>a4.o F H (λ_ _=>h) I;obtain⟨z,hz⟩:=exq<|Ap D.kind (l t) aw;rw[<-hz]at U b3;have h5:=qh U;clear U;have a2:=qh b3;clear b3;clear a1 a4;have T:∀W,Fr (λ_=>False) w5 W->(λE:World=>E.cell? (Ad mb 0)=some (.int .i64 D.kind)/\E.cell? (Ad g q)=some (.slice (some (Ad lb 0)) D.n D.n)/\E.cell? (Ad xb 3)=some (.int .i64 (t:Int))/\E.cell? (Ad lb t)=some (.string (l t))/\E.cell? (Ad xb 2)=some (.string aw)) W:=λW hf =>
     ⟨hf.cell (cellOf o.o.bx 0 rfl) (λe=>e),hf.cell (by have H:=o.o.gr.cell b9;rw[ifp (by omega),ifp rfl]at H;exact H) (λe=>e),hf.cell (cellOf h7.o 3 rfl) (λe=>e),hf.cell (o.o.rl.cell l7) (λe=>e),hf.cell (cellOf h7.o 2 rfl) (λe=>e)⟩
    replace T:=qh T;have hp:=λW=>Hp D.kind (l t) aw W (l2 t) i2;rw[<-hz]at hp;have HP:=qh hp;clear hp hz;obtain⟨wd,d3⟩:=exq<|w5.drew;have d4:=qh (show Fr (λ_=>False) w5 wd by rw[d3];exact Fr.of_below ((Below.refl w5.heap.size w5).drew));obtain⟨H,I⟩:=a5;subst H
    rcases I with I|⟨I,h3⟩
    ·subst I
     go_wp2_with fail
     rw[<-N,<-b5];clear N b5 x0 x1;have c:=T.o wd d4.o;refine AD (λE:World=>E.cell? (Ad mb 0)=some (.int .i64 D.kind)/\E.cell? (Ad g q)=some (.slice (some (Ad lb 0)) D.n D.n)/\E.cell? (Ad xb 3)=some (.int .i64 (t:Int))/\E.cell? (Ad lb t)=some (.string (l t))/\E.cell? (Ad xb 2)=some (.string aw)) 17 (by kernel_rfl) ?_;rw[<-d3];clear d3;refine Aa.tm 0 c ?_;refine Aa.tm 1 c ?_;refine Aa.tm 2 c ?_;refine Aa.tm 3 c ?_;refine Aa.tm 4 c ?_;refine Aa.tm 5 c ?_;refine Aa.tm 6 c ?_;refine Aa.tm 7 c ?_;refine Aa.tm 8 c ?_;refine Aa.tm 9 c ?_;refine Aa.tm 10 c ?_;refine Aa.tm 11 c ?_
     try simp only[Act.put,tryL]
     refine Aa.on 12 λK J=>?_;go_simp;refine(HP.o wd).mono ?_;rintro rr w6⟨rfl,b8⟩;have Z:=qh<|d4.o.trans (Fr.of_below b8);have G:=T.o w6 Z.o;clear b8 c HP;refine J.out _ _ (.inr G) ?_;clear J K
     try simp only[Act.put,tryL]
     refine Aa.tm 13 G ?_;refine Aa.tm 14 G ?_;refine Aa.tm 15 G ?_
     try simp only[Act.put,tryL]
     refine Aa.on 16 λK J=>?_;go_simp;refine J.out _ _ (.inr G) ?_;clear J K
     try simp only[Act.put,tryL]
     refine Aa.on 17 λK J=>?_;go_simp;refine J.out _ _ (.inl rfl) (Aa.dn ?_);clear J K G;have L:=o.o.new Z.o;by_cases a9:z.2=0
     ·have g4:(z.2:Int)=0:=by omega
      have S:=qh<|a2.o a9;obtain⟨we,a8⟩:=exq<|w6.drew;have a6:Fr (λ_=>False) w6 we:=by rw[a8];exact Fr.of_below<|(Below.refl w6.heap.size w6).drew
      have m:=T.o we (Z.o.trans a6);have a7:=L.new a6;have f0:=a7.rl.frozen t;have e8:=qh a7;clear a7 L;clear o a2 a6
      go_wp2_with fail
      refine AD (λE:World=>E.cell? (Ad mb 0)=some (.int .i64 D.kind)/\E.cell? (Ad g q)=some (.slice (some (Ad lb 0)) D.n D.n)/\E.cell? (Ad xb 3)=some (.int .i64 (t:Int))/\E.cell? (Ad lb t)=some (.string (l t))/\E.cell? (Ad xb 2)=some (.string aw)) 8 (by kernel_rfl) ?_;rw[<-a8];clear a8;refine Aa.tm 0 m ?_;refine Aa.tm 1 m ?_;refine Aa.tm 2 m ?_;refine Aa.tm 3 m ?_;refine Aa.tm 4 m ?_;refine Aa.tm 5 m ?_;refine Aa.tm 6 m ?_;refine Aa.tm 7 m ?_
      try simp only[Act.put,tryL]
      refine Aa.on 8 λK J=>?_;obtain⟨g6,g7,g8,g9,h0⟩:=m;go_simp;refine J.out _ _ (.inl rfl) (Aa.dn ?_);clear J K g6 g7 g8 g9 h0 f0;go_wp2;go_roundw
      case rel=>exact⟨d+1,true,by omega,rfl,by go_num,by rw[h5.o];exact e8.o.put t z.1,⟨λe=>(by cases e),λ_=>d5.o⟩,S.o⟩
      simp[intOf];omega
     have g4:¬((z.2:Int)=0):=by omega
     have l8:((z.2:Int)==0)=false:=by simp;omega
     have l9:decide ((z.2:Int)=0)=false:=by simp;omega
     have e7:=qh L;clear L;have f1:=qh a9;clear a9;go_wp2;go_ret2;exact⟨e7.o.be,_,none,z.2,rfl,rfl,.inr (.inr ⟨f1.o,rfl,d5.o⟩)⟩
    have j9:(ao==0)=false:=by simp[I]
    have k0:decide (ao=0)=false:=by simp[I]
    subst h3
    go_wp2_with fail
    rw[<-N,<-b5];clear N b5 x0 x1;have c:=T.o wd d4.o;refine AD (λE:World=>E.cell? (Ad mb 0)=some (.int .i64 D.kind)/\E.cell? (Ad g q)=some (.slice (some (Ad lb 0)) D.n D.n)/\E.cell? (Ad xb 3)=some (.int .i64 (t:Int))/\E.cell? (Ad lb t)=some (.string (l t))/\E.cell? (Ad xb 2)=some (.string aw)) 17 (by kernel_rfl) ?_;rw[<-d3];clear d3;refine Aa.tm 0 c ?_;refine Aa.tm 1 c ?_;refine Aa.tm 2 c ?_;refine Aa.tm 3 c ?_;refine Aa.tm 4 c ?_;refine Aa.tm 5 c ?_;refine Aa.tm 6 c ?_;refine Aa.tm 7 c ?_;refine Aa.tm 8 c ?_;refine Aa.tm 9 c ?_;refine Aa.tm 10 c ?_;refine Aa.tm 11 c ?_
    try simp only[Act.put,tryL]
    refine Aa.on 12 λK J=>?_;go_simp;refine(HP.o wd).mono ?_;rintro rr w6⟨rfl,b8⟩;have Z:=qh<|d4.o.trans (Fr.of_below b8);have G:=T.o w6 Z.o;clear b8 c HP;refine J.out _ _ (.inr G) ?_;clear J K
    try simp only[Act.put,tryL]
    refine Aa.tm 13 G ?_;refine Aa.tm 14 G ?_;refine Aa.tm 15 G ?_
    try simp only[Act.put,tryL]
    refine Aa.on 16 λK J=>?_;go_simp;refine J.out _ _ (.inr G) ?_;clear J K
    try simp only[Act.put,tryL]
    refine Aa.on 17 λK J=>?_;go_simp;refine J.out _ _ (.inl rfl) (Aa.dn ?_);clear J K G;have L:=o.o.new Z.o;by_cases a9:z.2=0
    ·have g4:(z.2:Int)=0:=by omega
     have S:=qh<|a2.o a9;obtain⟨we,a8⟩:=exq<|w6.drew;have a6:Fr (λ_=>False) w6 we:=by rw[a8];exact Fr.of_below<|(Below.refl w6.heap.size w6).drew
     have m:=T.o we (Z.o.trans a6);have a7:=L.new a6;have f0:=a7.rl.frozen t;have e8:=qh a7;clear a7 L;clear o a2 a6
     go_wp2_with fail
     refine AD (λE:World=>E.cell? (Ad mb 0)=some (.int .i64 D.kind)/\E.cell? (Ad g q)=some (.slice (some (Ad lb 0)) D.n D.n)/\E.cell? (Ad xb 3)=some (.int .i64 (t:Int))/\E.cell? (Ad lb t)=some (.string (l t))/\E.cell? (Ad xb 2)=some (.string aw)) 8 (by kernel_rfl) ?_;rw[<-a8];clear a8;refine Aa.tm 0 m ?_;refine Aa.tm 1 m ?_;refine Aa.tm 2 m ?_;refine Aa.tm 3 m ?_;refine Aa.tm 4 m ?_;refine Aa.tm 5 m ?_;refine Aa.tm 6 m ?_;refine Aa.tm 7 m ?_
     try simp only[Act.put,tryL]
     refine Aa.on 8 λK J=>?_;obtain⟨g6,g7,g8,g9,h0⟩:=m;go_simp;refine J.out _ _ (.inl rfl) (Aa.dn ?_);clear J K g6 g7 g8 g9 h0 f0;go_wp2;go_roundw
     case rel=>exact⟨d+1,true,by omega,rfl,by go_num,by rw[h5.o];exact e8.o.put t z.1,⟨λe=>(by cases e),λ_=>d5.o⟩,S.o⟩
     simp[intOf];omega
    have g4:¬((z.2:Int)=0):=by omega
    have l8:((z.2:Int)==0)=false:=by simp;omega
    have l9:decide ((z.2:Int)=0)=false:=by simp;omega
    have e7:=qh L;clear L;have f1:=qh a9;clear a9;go_wp2;go_ret2;exact⟨e7.o.be,_,none,z.2,rfl,rfl,.inr (.inr ⟨f1.o,rfl,d5.o⟩)⟩
   have U:=a1.o;rw[ifn u]at U;have b3:so8 D sel q (d+1):=λF H I=>a4.o F H (λ_ h=>absurd h u) I;have b0:b2=false->(∀s d,s<q->d<D.na s->sel (D.ain s d) (D.aout s d)=false)/\∀F,F<d+1->sel (D.ain q F) (D.aout q F)=false:=λe=>⟨(R.o.1 e).1,λF h=>by
    by_cases e2:F=d
    ·subst e2;rw[<-e5.o,<-e6.o];simpa using u
    exact(R.o.1 e).2 F (by omega)⟩
   have a5:(¬ai=0)\/(ai=0/\¬ao=0/\lo=false):=by
    rw[X.o]at u;unfold sel8 at u;by_cases e:ai=0
    ·refine .inr ⟨e,?_⟩;simp only[e,decide_true,Bool.true_and,Bool.or_eq_true,decide_eq_true_eq,not_or]at u;exact⟨u.1,by simpa using u.2⟩
    exact .inl e
   rw[<-U]at o;have a2:=qh b3;clear b3;replace b0:=qh b0;clear U u a1 a4 e6 e5
   rcases a5 with H|⟨H,I,h3⟩
   ·have n5:(ai==0)=false:=by simp[H]
    have n6:decide (ai=0)=false:=by simp[H]
    go_wp2_with fail
    rw[<-N];go_roundw
    case rel=>exact⟨d+1,b2,by omega,rfl,by go_num,o.o,⟨b0.o,R.o.2⟩,a2.o⟩
    simp[intOf];omega
   have j9:(ao==0)=false:=by simp[I]
   have k0:decide (ao=0)=false:=by simp[I]
   subst H;subst h3
   go_wp2_with fail
   rw[<-N];go_roundw
   case rel=>exact⟨d+1,b2,by omega,rfl,by go_num,o.o,⟨b0.o,R.o.2⟩,a2.o⟩
   simp[intOf];omega
  have l0:¬((d:Int)<(D.na q:Int)):=by omega
  have i5:d=D.na q:=by omega
  have hi:=o.o;have ho:=e3.o;have B:=R.o;rw[i5]at hi ho B;have Q:=qh hi.done;clear hi;have S:=qh (show ∀s,s<q+1->so8 D sel s (D.na s) from λs h=>by
   by_cases e:s=q
   ·rw[e];exact ho
   exact h6.o s (by omega))
  have b1:=qh (show b2=false->∀s d,s<q+1->d<D.na s->sel (D.ain s d) (D.aout s d)=false from λe s d h I=>by
   by_cases e2:s=q
   ·subst e2;exact(B.1 e).2 d I
   exact(B.1 e).1 s d (by omega) I)
  have j8:=qh B.2;clear ho B i5;go_wp2;go_roundw
  case rel=>exact⟨q+1,b2,_,by omega,rfl,by go_num,Q.o,⟨b1.o,j8.o⟩,S.o⟩
  simp[intOf];omega
 have l0:¬((q:Int)<(D.n:Int)):=by omega
 have j2:q=D.n:=by omega
 have hi:=o.o;have ho:=h6.o;have B:=e9.o;rw[j2]at hi ho B;have Q:=qh hi;clear hi;have S:=qh ho;clear ho;have b1:=qh B;clear B;clear j2;cases bb
 ·go_wp2;go_ret2;exact⟨Q.o.be,_,none,0,rfl,rfl,.inl ⟨λq d H I=>b1.o.1 (by simp) q d H I,rfl,rfl⟩⟩
 by_cases f2:D.n<=60
 ·have h8:¬((60:Int)<(D.n:Int)):=by omega
  have m4:decide ((60:Int)<(D.n:Int))=false:=by simp;omega
  obtain⟨k,hk⟩:=hV.o.kk;have j5:=WJ hV.o hk S.o;have e4:Sq k.1 D.n (λ_=>D.n) (sm8 D sel):=by rw[hk];exact j5
  have j6:=Wm (k:=k) wr f2 (Q.o.mt f2) (λi j=>by have:=HL (D:=D) (sel:=sel) (q:=i) (D.na i) j;unfold smS at this;unfold sm8 maxLen;omega) e4;have d2:Calls prog 116 #[.int .i64 D.kind,.slice (some (Ad g 0)) D.n D.n] wr (RStarE D.n (λi j=>wval k (sm8 D sel i j)) wr):=by rw[<-hk];exact j6
  replace d2:=qh d2;clear j6 j5 e4;replace hk:=qh hk;have m0:=cellOf Q.o.bx 0 rfl
  go_wp2_with fail
  refine d2.o.mono ?_;rintro r w7⟨i4,hr⟩;have h4:=qh<|Q.o.be.trans (i4.mono Q.o.be.size);clear i4
  rcases hr with rfl|⟨v,Y,rfl,_,d8,d9⟩
  ·go_wp2;go_ret2;exact⟨h4.o,_,none,2,rfl,rfl,.inr (.inr ⟨by omega,rfl,b1.o.2 (by first|rfl|trivial)⟩)⟩
  obtain⟨av,cv,l6⟩:=d8.shape;subst l6;replace d8:=qh d8;replace d9:=qh d9;go_wp2;go_ret2;refine⟨h4.o,_,some Y,0,rfl,⟨d8.o,λi j hi hj=>by have H:=(d9.o i j hi hj).1;unfold smS;omega⟩,.inr (.inl ⟨f2,rfl,b1.o.2 (by first|rfl|trivial),Y,rfl,λk' l1 i j hi hj=>?_⟩)⟩
  obtain rfl:k'=k:=Subtype.ext<|l1.trans hk.o.symm;have H:=(d9.o i j hi hj).2 rfl;have I:CSR.starM (λi j=>wval k' (sm8 D sel i j)) D.n i j=CSR.starM (sils (rmOf k' D) sel) D.n i j:=CSR.starM_congr (λi j hi hj=>(OJ hV.o hk.o S.o hi hj).val) i j hi hj;rw[<-I];exact H
 have h8:(60:Int)<(D.n:Int):=by omega
 go_wp2;go_ret2;exact⟨Q.o.be,_,none,2,rfl,rfl,.inr (.inr ⟨by omega,rfl,b1.o.2 (by first|rfl|trivial)⟩)⟩
end
section
open Go.RowKit Go.Deep
def Tq:(prog.info? 96).map (λi=>(i.zero,i.size,i.bytes))=some (some (.slice none 0 0),1,24):=by kernel_rfl
def Wg8G(D:MD)(na:Nat)(x:Nat->Int)(nb:Nat)(y:Nat->Int)(w:World)(r:Ending)(w':World):Prop :=
 Below w.heap.size w w'/\((VM D/\isWord na x=true/\isWord nb y=true/\∃st e z,Sil8 D silB st e/\z=(if e≠0 then (⟨#[]⟩,e) else Cn D st na x nb y)/\r=.returned (.tuple #[.string z.1,.int .i64 (z.2:Int)]))\/(¬(VM D/\isWord na x=true/\isWord nb y=true)/\r=.returned (.tuple #[.string ⟨#[]⟩,.int .i64 1])))
def PY{n:Nat}{x:Nat->Int}(h:isWord n x=true):n<=200:=by
 unfold isWord at h;rw[Bool.and_eq_true]at h;exact of_decide_eq_true h.1
set_option maxRecDepth 1000000 in
theorem PQ{D:MD}{sv xv yv:Value}{na nb:Nat}{x y:Nat->Int}(w:World)(hD:StS none w sv D)(hs:MSz D)(hx:Si none w xv na x)(hy:Si none w yv nb y):
  Calls prog 28 #[.agg #[.int .i64 D.kind,.int .i64 D.start,.string D.lead,sv],xv,yv] w (Wg8G D na x nb y w):=by
 obtain⟨a,cp,_,_,_,_,_,_,H5,_⟩:=hD.open;subst H5;have H0:=ME hx;have H1:=ME hy;obtain⟨ax,cx,bx,ox,rfl,m4,_,_,j6,x4⟩:=hx.open;obtain⟨ay,cy,i8,oy,rfl,m5,_,_,j8,x6⟩:=hy.open;obtain⟨w1,g9⟩:=exq<|w.alloc (.cells #[.int .i64 D.kind,.int .i64 D.start,.string D.lead,.slice a D.n cp] 25);obtain⟨A,j0⟩:=exq<|w.heap.size;have s4:Fr (λ_=>False) w w1:=by rw[g9];exact Fr.alloc _ _
 have E:BxM w1 A D (.slice a D.n cp):=by rw[g9,j0];exact BxM.new w D _
 have i3:=qh<|show Below w.heap.size w w1 from s4.below nlr (λ_ e=>e.elim);have u:=qh E;have K0:=qh (show A<w.heap.size+1 by omega);have d1:∀W,Below w.heap.size w W->StS none W (.slice a D.n cp) D:=λW h=>hD.kept (Ae h none);have w0:=λW (h:Below w.heap.size w W)=>XZ W (⟨_,rfl,d1 W h⟩:Ma none W (.agg #[.int .i64 D.kind,.int .i64 D.start,.string D.lead,.slice a D.n cp]) D) hs;have x1:=λW (h:Below w.heap.size w W)=>Ow W (hx.kept (Ae h none)) H0;have x2:=λW (h:Below w.heap.size w W)=>Ow W (hy.kept (Ae h none)) H1;have v9:=λW (h:Below w.heap.size w W) (hV:VM D)=>WI (lo:=false) W hV (d1 W h) (λq k=>by have:=hs.aw q k;unfold smS;unfold maxLen at this;omega);have o5:=λW (hV:VM D)=>Iv (D:=D) (a:=a) (cap:=cp) W hV.n2;have f7:=qh d1;clear d1;have q9:=qh w0;clear w0;have r3:=qh x1;clear x1;have r4:=qh x2;clear x2;have p9:=qh v9;clear v9;replace o5:=qh o5;replace hs:=qh hs;replace m4:=qh m4;have e8:=qh j6;clear j6;have i6:=qh x4;clear x4;replace m5:=qh m5;have e9:=qh j8;clear j8;have i7:=qh x6;clear x6;have m0:=cellOf E 0 rfl;have m1:=cellOf E 1 rfl;have m2:=cellOf E 2 rfl;have m3:=cellOf E 3 rfl;have l0:=m0;have l1:=m1;have l2:=m2;have l3:=m3;rw[g9,j0]at l0 l1 l2 l3;clear hD hx hy s4 E
 go_enter func28,ntmps28
 go_wp2_with fail
 rw[<-g9,<-j0];clear g9 j0 l0 l1 l2 l3 m0 m1 m2 m3;refine(q9.o w1 i3.o).mono ?_;rintro rr w2⟨f9,v4⟩;obtain⟨bv,rfl,m7⟩:∃bv,rr=.returned (.bool bv)/\(VM D↔bv=true):=by
  rcases v4 with⟨h,rfl⟩|⟨h,rfl⟩
  ·exact⟨true,rfl,by simp[h]⟩
  exact⟨false,rfl,by simp[h]⟩
 have S:=qh<|i3.o.trans (f9.mono i3.o.size);have a2:=qh<|u.o.kept (Fr.of_below (C:=λ_=>False) f9) (λe=>e);clear f9 v4 i3 u q9;cases bv
 ·have f5:=qh (show ¬(VM D/\isWord na x=true/\isWord nb y=true) from λh=>by have:=m7.1 h.1;cases this);go_wp2;go_ret2;exact⟨S.o,.inr ⟨f5.o,rfl⟩⟩
 have HV:=qh<|m7.2 rfl;clear m7
 go_wp2_with fail
 refine(r3.o w2 S.o).mono ?_;rintro rr w3⟨rfl,rfl⟩;clear r3;cases b6:isWord na x
 ·have f5:=qh (show ¬(VM D/\isWord na x=true/\isWord nb y=true) from λh=>by rw[b6]at h;cases h.2.1);go_wp2;go_ret2;exact⟨S.o,.inr ⟨f5.o,rfl⟩⟩
 have J3:=PY b6;replace b6:=qh b6
 go_wp2_with fail
 refine(r4.o w3 S.o).mono ?_;rintro rr w4⟨rfl,rfl⟩;clear r4;cases b7:isWord nb y
 ·have f5:=qh (show ¬(VM D/\isWord na x=true/\isWord nb y=true) from λh=>by rw[b7]at h;cases h.2.2);go_wp2;go_ret2;exact⟨S.o,.inr ⟨f5.o,rfl⟩⟩
 have J4:=PY b7;replace b7:=qh b7;have G9:D.n<=3000:=HV.o.n2;have m0:=cellOf a2.o 0 rfl;have m1:=cellOf a2.o 1 rfl;have m2:=cellOf a2.o 2 rfl;have m3:=cellOf a2.o 3 rfl
 go_wp2_with fail
 refine(p9.o w4 S.o HV.o).mono ?_;rintro rr w5⟨Z,K5,sO,e0,rfl,e5,g4⟩;rw[WA]at g4;have N:=qh<|S.o.trans (Z.mono S.o.size);have e1:=qh<|a2.o.kept (Fr.of_below (C:=λ_=>False) Z) (λe=>e);have i5:=qh g4;clear g4;replace e5:=qh e5;clear Z S a2 p9 m0 m1 m2 m3;by_cases m8:e0=0
 rotate_left
 ·have I8:¬((e0:Int)=0):=by omega
  have I6:((e0:Int)==0)=false:=by simp;omega
  have I7:decide ((e0:Int)=0)=false:=by simp;omega
  have F8:=qh m8;clear m8;go_wp2;go_ret2;exact⟨N.o,.inl ⟨HV.o,b6.o,b7.o,sO,e0,(⟨#[]⟩,e0),i5.o,(ifp F8.o).symm,rfl⟩⟩
 subst m8;obtain⟨J,o3⟩:=exq<|w5;rw[<-o3];rw[<-o3]at N e1 e5;clear o3 w5;have k5:∀W,Below J.heap.size J W->StS none W (.slice a D.n cp) D:=λW h=>f7.o W (N.o.trans (h.mono N.o.size));have k6:0<na->bx<J.heap.size/\some bx≠none:=λh=>⟨Nat.lt_of_lt_of_le (e8.o h).1 N.o.size,(e8.o h).2⟩;have k9:0<nb->i8<J.heap.size/\some i8≠none:=λh=>⟨Nat.lt_of_lt_of_le (e9.o h).1 N.o.size,(e9.o h).2⟩;have k7:∀i,i<na->J.cell? (Ad bx (ox+i))=some (.int .i64 (x i)):=λi h=>(N.o.cell (p:=(Ad bx (ox+i))) (e8.o (by omega)).1).trans (i6.o i h);have l4:∀i,i<nb->J.cell? (Ad i8 (oy+i))=some (.int .i64 (y i)):=λi h=>(N.o.cell (p:=(Ad i8 (oy+i))) (e9.o (by omega)).1).trans (i7.o i h);clear f7 e8 e9 i6 i7;have f7:=qh k5;clear k5;have e8:=qh k6;clear k6;have e9:=qh k9;clear k9;have i6:=qh k7;clear k7;have i7:=qh l4;clear l4;have b1:=qh<|Below.refl J.heap.size J;obtain⟨n1,v0⟩:=exq<|na+1;obtain⟨n2,v2⟩:=exq<|nb+1;have J8:IntKind.i64.wrap ((na:Int)+1)=(n1:Int):=by rw[IntKind.wrap_i64];omega
 have J9:IntKind.i64.wrap ((nb:Int)+1)=(n2:Int):=by rw[IntKind.wrap_i64];omega
 have t8:=run_make_row' (P:=prog) 99 96 (.slice none 0 0) 24 underlying99 Tq rfl .i64 .i64 n1 (by omega) (by omega);have t9:=run_make_row' (P:=prog) 96 100 (.slice none 0 0) 24 underlying96 Jk rfl .i64 .i64 n2 (by omega) (by omega);have a6:=qh v0;have a7:=qh v2;have G6:n1<=201:=by omega
 have f9:n2<=201:=by omega
 obtain⟨w6,b0⟩:=exq<|J.alloc (.cells (madeCells #[.slice none 0 0] n1) 96);obtain⟨g,hg⟩:=exq<|J.heap.size;have b3:Fr (λ_=>False) J w6:=by rw[b0];exact Fr.alloc _ _
 have G:=qh (show TQ w6 J.heap.size g n1 n2 D.n 0 n2 (λ_=>0) (λ_ _=>0) (Ak D.kind) by rw[b0,hg];exact TQ.made J b1.o.size n1 n2 D.n _);have e2:=qh<|e1.o.kept b3 (λe=>e);have p0:=qh<|b1.o.trans (b3.below b1.o.size (λ_ e=>e.elim));have F9:=qh (show A≠g by have:=lbk e1.o;omega);clear b3 b1 e1 v0 v2
 go_wp2_with fail
 rw[<-b0,<-hg];clear b0 hg t8
 go_loopw [11] (λo6 wr=>∃k:Nat,k<=n1/\o6=.int .i64 (k:Int)/\(∃r s,TQ wr J.heap.size g n1 n2 D.n k n2 r s (Ak D.kind))/\BxM wr A D (.slice a D.n cp)/\Below J.heap.size J wr) (λo6 _=>n1-(intOf o6).toNat)
 case atStart=>exact⟨0,Nat.zero_le _,rfl,⟨_,_,G.o⟩,e2.o,p0.o⟩
 obtain⟨k,hk,rfl,⟨r,s,g6⟩,E,T⟩:=hrel;clear G e2 p0;have G:=qh g6;clear g6;have u:=qh E;clear E;have m:=qh T;clear T;by_cases t7:k<n1
 ·have K2:(k:Int)<=(na:Int):=by have:=a6.o;omega
  have J2:(k:Int)<(n1:Int):=by omega
  have J1:(0:Int)<=(k:Int):=by omega
  have c0:=G.o.top.cell t7;rw[ifn (Nat.lt_irrefl k)]at c0;have f0:=G.o.top.frozen k;have G8:=G.o.top.lt;obtain⟨w7,j3⟩:∃w7,w7=(wr.setCell ⟨g,k,none⟩ (.slice (some ⟨wr.heap.size,0,none⟩) n2 n2)).alloc (.cells (madeCells #[.slice none 0 0] n2) 100):=⟨_,rfl⟩;have g7:=G.o.addRow m.o.size;rw[<-j3]at g7;have q7:=qh g7;clear g7;have m9:Fr (λc=>c=g) wr w7:=by rw[j3];exact((Fr.refl (λc=>c=g) wr).set (p:=(Ad g k)) (.inl rfl) _).trans (Fr.alloc _ _)
  have j4:=qh<|u.o.kept m9 F9.o;have p6:=qh (m.o.trans (m9.below m.o.size (λc e=>by rw[e];exact G.o.base)));clear m9
  go_wp2_with fail
  rw[<-j3];clear j3 c0 f0 G8
  go_loopw [12] (λo7 wr=>∃j:Nat,j<=n2/\o7=.int .i64 (j:Int)/\(∃r s,TQ wr J.heap.size g n1 n2 D.n (k+1) j r s (Ak D.kind))/\BxM wr A D (.slice a D.n cp)/\Below J.heap.size J wr) (λo7 _=>n2-(intOf o7).toNat)
  case atStart=>exact⟨0,Nat.zero_le _,rfl,⟨_,_,q7.o⟩,j4.o,p6.o⟩
  obtain⟨j,hj,rfl,⟨r,s,g6⟩,E,T⟩:=hrel;clear q7 j4 p6 G u m;have G:=qh g6;clear g6;have u:=qh E;clear E;have m:=qh T;clear T;by_cases d7:j<n2
  ·have G7:(j:Int)<=(nb:Int):=by have:=a7.o;omega
   have s8:(j:Int)<(n2:Int):=by omega
   have s7:(0:Int)<=(j:Int):=by omega
   obtain⟨rk,f1⟩:=exq<|r k;have U:∀W,Fr (λ_=>False) wr W->(λo:World=>o.cell? (Ad g k)=some (.slice (some ⟨rk,0,none⟩) n2 n2)/\o.cell? (Ad A 0)=some (.int .i64 D.kind)/\o.cell? (Ad A 1)=some (.int .i64 D.start)/\o.cell? (Ad A 2)=some (.string D.lead)/\o.cell? (Ad A 3)=some (.slice a D.n cp)) W:=λW hf=>by
    have R:=(G.o.new hf).top.cell t7;rw[ifp (Nat.lt_succ_self k)]at R;have H:=u.o.kept hf (λe=>e);exact⟨by rw[f1];exact R,cellOf H 0 rfl,cellOf H 1 rfl,cellOf H 2 rfl,cellOf H 3 rfl⟩
   have a4:=qh U;clear U;replace f1:=qh f1;obtain⟨Q,F⟩:=exq<|wr.drew;have O:=qh (show Fr (λ_=>False) wr Q by rw[F];exact Fr.of_below ((Below.refl wr.heap.size wr).drew))
   go_wp2_with fail
   have l:=a4.o Q O.o;refine AD (λo:World=>o.cell? (Ad g k)=some (.slice (some ⟨rk,0,none⟩) n2 n2)/\o.cell? (Ad A 0)=some (.int .i64 D.kind)/\o.cell? (Ad A 1)=some (.int .i64 D.start)/\o.cell? (Ad A 2)=some (.string D.lead)/\o.cell? (Ad A 3)=some (.slice a D.n cp)) 8 (by kernel_rfl) ?_;rw[<-F];clear F;refine Aa.tm 0 l ?_;refine Aa.tm 1 l ?_;refine Aa.tm 2 l ?_;refine Aa.tm 3 l ?_;refine Aa.tm 4 l ?_;refine Aa.tm 5 l ?_
   try simp only[Act.put,tryL]
   refine Aa.on 6 λK I=>?_;go_simp;refine(o5.o Q HV.o).mono ?_;rintro rr w8⟨r9,vg,rfl,H6,x0⟩;have d5:=qh<|O.o.trans (Fr.of_below r9);have l9:=a4.o w8 d5.o;have G2:=qh x0;have G1:=qh (show wr.heap.size<=vg by have:=O.o.size;omega);clear r9 H6 x0 l;refine I.out _ _ (.inr l9) ?_;clear I K
   try simp only[Act.put,tryL]
   refine Aa.tm 7 l9 ?_
   try simp only[Act.put,tryL]
   have b8:=((G.o.new d5.o).mid k (Nat.lt_succ_self k)).1;rw[<-f1.o]at b8;have c0:=b8.cell d7;rw[ifn (by unfold dn;omega)]at c0;have f0:=b8.frozen j;refine Aa.on 8 λK I=>?_;go_simp;refine I.out _ _ (.inl rfl) (Aa.dn ?_);clear I K l9 c0 f0;have j2:=G.o.addVec d7 d5.o G2.o m.o.size G1.o;rw[<-f1.o]at j2;have k4:A≠rk:=λe=>by
    obtain⟨c,R,_⟩:=b8;have H:=u.o.kept d5.o (λe=>e);unfold BxM at H;rw[e,R]at H;simp at H
   have g3:J.heap.size<=rk:=by rw[f1.o];exact(G.o.mid k (Nat.lt_succ_self k)).2
   obtain⟨w9,d4⟩:=exq<|w8.setCell ⟨rk,j,none⟩ (.slice (some ⟨vg,0,none⟩) D.n D.n);have b4:Fr (λc=>c=rk) w8 w9:=by rw[d4];exact(Fr.refl (λc=>c=rk) w8).set (p:=(Ad rk j)) (.inl rfl) _
   rw[<-d4]at j2;have G0:=qh j2;have e3:=qh<|(u.o.kept d5.o (λe=>e)).kept b4 k4;have i4:=qh ((m.o.trans (d5.o.below m.o.size (λ_ e=>e.elim))).trans (b4.below (Nat.le_trans m.o.size d5.o.size) (λc e=>by rw[e];exact g3)));clear j2 b8 k4 g3 b4
   go_wp2_with fail
   rw[<-d4];go_roundw
   case rel=>exact⟨j+1,by omega,by go_num,⟨_,_,G0.o⟩,e3.o,i4.o⟩
   simp[intOf];omega
  have g2:j=n2:=by omega
  have n5:¬((j:Int)<=(nb:Int)):=by have:=a7.o;omega
  have ht:=G.o;rw[g2]at ht;have d6:=qh ht;clear ht g2;go_wp2;go_roundw
  case rel=>exact⟨k+1,by omega,by go_num,⟨_,_,d6.o⟩,u.o,m.o⟩
  simp[intOf];omega
 have s9:k=n1:=by omega
 have n5:¬((k:Int)<=(na:Int)):=by have:=a6.o;omega
 have ht:=G.o;rw[s9]at ht;have d6:=qh ht;clear ht s9 G t9;obtain⟨st,d1⟩:∃st:Nat,D.start=(st:Int):=⟨D.start.toNat,by have:=HV.o.s0;omega⟩;have g4:st<D.n:=by have:=HV.o.s1;omega
 have J7:(st:Int)<(D.n:Int):=by omega
 have H4:(0:Int)<=(st:Int):=by omega
 have i9:0<n1:=by have:=a6.o;omega
 have l8:0<n2:=by have:=a7.o;omega
 obtain⟨r0,n7⟩:=exq<|r 0;obtain⟨s0,j1⟩:=exq<|s 0 0;have U:(λo:World=>o.cell? (Ad g 0)=some (.slice (some ⟨r0,0,none⟩) n2 n2)/\o.cell? (Ad r0 0)=some (.slice (some ⟨s0,0,none⟩) D.n D.n)/\o.cell? (Ad A 1)=some (.int .i64 (st:Int))/\o.cell? (Ad A 2)=some (.string D.lead)) wr:=by
  have R:=d6.o.whole.top.cell i9;have H:=(d6.o.whole.mid 0 i9).1.cell l8;refine⟨by rw[n7];exact R,by rw[n7,j1];exact H,?_,cellOf u.o 2 rfl⟩;rw[<-d1];exact cellOf u.o 1 rfl
 have d2:=d6.o.whole.vec 0 0 i9 l8;rw[<-j1]at d2;have c0:=d2.cell g4;have f0:=d2.frozen st;obtain⟨a1,o2⟩:=d6.o.lead d1 i9 l8;rw[<-j1]at a1 o2;have b9:A≠s0:=Oe u.o d2;obtain⟨w9,d4⟩:=exq<|wr.setCell ⟨s0,st,none⟩ (.string D.lead);have b4:Fr (λc=>c=s0) wr w9:=by rw[d4];exact(Fr.refl (λc=>c=s0) wr).set (p:=(Ad s0 st)) (.inl rfl) _
 rw[<-d4]at a1;obtain⟨Q,F⟩:=exq<|wr.drew;obtain⟨I4,h0⟩:∃w,w=Q.setCell ⟨s0,st,none⟩ (.string D.lead):=⟨_,rfl⟩;have e4:Fr (λ_=>False) w9 I4:=by rw[d4,h0,F];exact⟨rfl,rfl,rfl,nlr,λq _ _=>rfl⟩
 have L:=qh<|a1.new e4;have e3:=qh<|(u.o.kept b4 b9).kept e4 (λe=>e);have i4:=qh ((m.o.trans (b4.below m.o.size (λc e=>by rw[e];exact o2))).trans (e4.below (Nat.le_trans m.o.size b4.size) (λ_ e=>e.elim)));have l:(λo:World=>o.cell? (Ad g 0)=some (.slice (some ⟨r0,0,none⟩) n2 n2)/\o.cell? (Ad r0 0)=some (.slice (some ⟨s0,0,none⟩) D.n D.n)/\o.cell? (Ad A 1)=some (.int .i64 (st:Int))/\o.cell? (Ad A 2)=some (.string D.lead)) Q:=by rw[F];exact U
 have d0:Q.cell? (Ad s0 st)=some (.string (zerR D.kind st)):=by rw[F];exact c0
 have e0:Q.frozen? (Ad s0 st)=false:=by rw[F];exact f0
 have h7:(0:Int)<(n1:Int):=by omega
 have h8:(0:Int)<(n2:Int):=by omega
 clear U d2 c0 f0 a1 o2 b9 b4 e4 d4 n7 j1 d1 d6
 go_wp2_with fail
 refine AD (λo:World=>o.cell? (Ad g 0)=some (.slice (some ⟨r0,0,none⟩) n2 n2)/\o.cell? (Ad r0 0)=some (.slice (some ⟨s0,0,none⟩) D.n D.n)/\o.cell? (Ad A 1)=some (.int .i64 (st:Int))/\o.cell? (Ad A 2)=some (.string D.lead)) 10 (by kernel_rfl) ?_;rw[<-F];clear F;refine Aa.tm 0 l ?_;refine Aa.tm 1 l ?_;refine Aa.tm 2 l ?_;refine Aa.tm 3 l ?_;refine Aa.tm 4 l ?_;refine Aa.tm 5 l ?_;refine Aa.tm 6 l ?_;refine Aa.tm 7 l ?_;refine Aa.tm 8 l ?_;refine Aa.tm 9 l ?_
 try simp only[Act.put,tryL]
 refine Aa.on 10 λK I=>?_;go_simp;refine I.out _ _ (.inl rfl) (Aa.dn ?_);clear I K l d0 e0;rw[<-h0];clear h0;have r5:=qh (Qh (D:=D) (by have:=hs.o.lead;unfold smS;unfold maxLen at this;omega))
 go_wp2_with fail
 go_loopw [13] (λo8 wr=>∃i:Nat,i<=n1/\o8=.int .i64 (i:Int)/\(∃r s X,Bb D sO na x nb y i (X0R D,0)=(X,0)/\smT X/\TW wr J.heap.size g n1 n2 D.n r s X)/\BxM wr A D (.slice a D.n cp)/\Below J.heap.size J wr) (λo8 _=>n1-(intOf o8).toNat)
 case atStart=>exact⟨0,Nat.zero_le _,rfl,⟨_,_,_,rfl,r5.o,L.o⟩,e3.o,i4.o⟩
 obtain⟨i,hi,rfl,⟨r,s,X,f8,b9,a1⟩,E,T⟩:=hrel;clear L e3 i4 r5;have L:=qh a1;clear a1;have b2:=qh f8;clear f8;have a8:=qh b9;clear b9;have u:=qh E;clear E;have m:=qh T;clear T;by_cases a9:i<n1
 ·have K1:(i:Int)<=(na:Int):=by have:=a6.o;omega
  have J0:(i:Int)<(n1:Int):=by omega
  have I9:(0:Int)<=(i:Int):=by omega
  have j9:i<=na:=by have:=a6.o;omega
  obtain⟨z1,h7⟩:=exq<|Bb D sO na x nb y i (X0R D,0);have r7:=qh h7;have p7:=qh (show Bb D sO na x nb y (i+1) (X0R D,0)=Bc D sO na x nb y i (nb+1) z1 by rw[h7];rfl);rw[<-h7]at b2;clear h7
  go_wp2_with fail
  go_loopw [14] (λo9 wr=>∃j:Nat,j<=n2/\o9=.int .i64 (j:Int)/\(∃r s X,Bc D sO na x nb y i j z1=(X,0)/\smT X/\TW wr J.heap.size g n1 n2 D.n r s X)/\BxM wr A D (.slice a D.n cp)/\Below J.heap.size J wr) (λo9 _=>n2-(intOf o9).toNat)
  case atStart=>exact⟨0,Nat.zero_le _,rfl,⟨_,_,_,b2.o,a8.o,L.o⟩,u.o,m.o⟩
  obtain⟨j,hj,rfl,⟨r,s,X,f8,b9,a1⟩,E,T⟩:=hrel;clear L u m b2 a8;have L:=qh a1;clear a1;have b2:=qh f8;clear f8;have a8:=qh b9;clear b9;have u:=qh E;clear E;have m:=qh T;clear T;by_cases d7:j<n2
  ·have G7:(j:Int)<=(nb:Int):=by have:=a7.o;omega
   have s8:(j:Int)<(n2:Int):=by omega
   have s7:(0:Int)<=(j:Int):=by omega
   have k0:j<=nb:=by have:=a7.o;omega
   obtain⟨z2,h8⟩:=exq<|rsT D sO i j (Bc D sO na x nb y i j z1);have G4:=qh h8;have j5:=qh (show Bc D sO na x nb y i (j+1) z1=mvR D na x nb y i j 4 z2 by rw[h8];rfl);obtain⟨z,hz⟩:=exq<|rest8 D.kind D.n sO (X i j);have x7:z2=if z.2≠0 then (X,z.2) else (updT X i j z.1,0):=by
    rw[h8,b2.o,hz];unfold rsT;rw[ifn (by simp)]
   have x8:∀p,smS (z.1 p):=by rw[hz];exact VS<|a8.o i j
   have l7:=qh x7;clear x7;have r8:=qh x8;clear x8;clear h8;obtain⟨rq,f3⟩:=exq<|r i;obtain⟨vs,d8⟩:=exq<|s i j;have U:∀W,Fr (λ_=>False) wr W->(λo:World=>o.cell? (Ad g i)=some (.slice (some ⟨rq,0,none⟩) n2 n2)/\o.cell? (Ad rq j)=some (.slice (some ⟨vs,0,none⟩) D.n D.n)/\o.cell? (Ad A 0)=some (.int .i64 D.kind)/\o.cell? (Ad A 1)=some (.int .i64 D.start)/\o.cell? (Ad A 2)=some (.string D.lead)/\o.cell? (Ad A 3)=some (.slice a D.n cp)) W:=λW hf=>by
    have R:=L.o.new hf;have H:=u.o.kept hf (λe=>e);rw[f3,d8];exact⟨R.top.cell a9,(R.mid i a9).1.cell d7,cellOf H 0 rfl,cellOf H 1 rfl,cellOf H 2 rfl,cellOf H 3 rfl⟩
   have a4:=qh U;clear U;have e7:=qh f3;clear f3;have r2:=qh d8;clear d8;obtain⟨Q,F⟩:=exq<|wr.drew;have O:=qh (show Fr (λ_=>False) wr Q by rw[F];exact Fr.of_below ((Below.refl wr.heap.size wr).drew));have s3:Below J.heap.size J Q:=m.o.trans<|O.o.below m.o.size (λ_ e=>e.elim);have n9:=VQ (a:=a) (cp:=cp) Q HV.o (by rw[r2.o];exact(L.o.new O.o).vec i j a9 d7) (a8.o i j) (e5.o.below s3) (vb:=vs);rw[<-hz]at n9;have p8:=qh n9;clear n9 s3 hz
   go_wp2_with fail
   have l:=a4.o Q O.o;refine AD (λo:World=>o.cell? (Ad g i)=some (.slice (some ⟨rq,0,none⟩) n2 n2)/\o.cell? (Ad rq j)=some (.slice (some ⟨vs,0,none⟩) D.n D.n)/\o.cell? (Ad A 0)=some (.int .i64 D.kind)/\o.cell? (Ad A 1)=some (.int .i64 D.start)/\o.cell? (Ad A 2)=some (.string D.lead)/\o.cell? (Ad A 3)=some (.slice a D.n cp)) 14 (by kernel_rfl) ?_;rw[<-F];clear F;refine Aa.tm 0 l ?_;refine Aa.tm 1 l ?_;refine Aa.tm 2 l ?_;refine Aa.tm 3 l ?_;refine Aa.tm 4 l ?_;refine Aa.tm 5 l ?_;refine Aa.tm 6 l ?_;refine Aa.tm 7 l ?_;refine Aa.tm 8 l ?_
   try simp only[Act.put,tryL]
   refine Aa.on 9 λK I=>?_;go_simp;refine p8.o.mono ?_;rintro rr w5⟨Z,H3⟩;have a5:=qh<|O.o.trans (Fr.of_below (C:=λ_=>False) Z);have B:=a4.o w5 a5.o;clear Z l p8
   rcases H3 with⟨f4,vg,rfl,_,d3⟩|⟨f4,rfl⟩
   rotate_left
   ·refine I.out _ _ (.inr B) ?_;clear I K
    try simp only[Act.put,tryL]
    refine Aa.tm 10 B ?_;refine Aa.tm 11 B ?_;refine Aa.tm 12 B ?_
    try simp only[Act.put,tryL]
    refine Aa.on 13 λK I=>?_;go_simp;refine I.out _ _ (.inr B) ?_;clear I K
    try simp only[Act.put,tryL]
    refine Aa.on 14 λK I=>?_;go_simp;refine I.out _ _ (.inl rfl) (Aa.dn ?_);clear I K;have i2:¬((z.2:Int)=0):=by omega
    have K3:((z.2:Int)==0)=false:=by simp;omega
    have K4:decide ((z.2:Int)=0)=false:=by simp;omega
    have hw:Cn D sO na x nb y=(⟨#[]⟩,z.2):=by
     have R:z2=(X,z.2):=l7.o.trans<|ifp f4;have H:Bc D sO na x nb y i (j+1) z1=(X,z.2):=by
      rw[j5.o,R];exact Hc (k:=0) (s:=(X,z.2)) f4 4
     exact PV r7.o H f4 j9 k0
    have HW:=qh hw;clear hw f4 B;have b1:=qh<|m.o.trans (a5.o.below m.o.size (λ_ e=>e.elim));go_wp2;go_ret2;exact⟨N.o.trans (b1.o.mono N.o.size),.inl ⟨HV.o,b6.o,b7.o,sO,0,_,i5.o,rfl,by rw[ifn (by simp),HW.o];rfl⟩⟩
   refine I.out _ _ (.inr B) ?_;clear I K
   try simp only[Act.put,tryL]
   refine Aa.tm 10 B ?_;refine Aa.tm 11 B ?_;refine Aa.tm 12 B ?_
   try simp only[Act.put,tryL]
   refine Aa.on 13 λK I=>?_;go_simp;refine I.out _ _ (.inr B) ?_;clear I K
   try simp only[Act.put,tryL]
   refine Aa.on 14 λK I=>?_;go_simp;refine I.out _ _ (.inl rfl) (Aa.dn ?_);clear I K;obtain⟨c1,c2,_,_,_,_⟩:=B;have e6:=L.o.new a5.o;have f2:w5.frozen? (Ad rq j)=false:=by rw[e7.o];exact(e6.mid i a9).1.frozen j
   have Y:=e6.put a9 d7 d3;rw[<-e7.o]at Y;obtain⟨w6,b0⟩:=exq<|w5.setCell ⟨rq,j,none⟩ (.slice (some ⟨vg,0,none⟩) D.n D.n);have b3:Fr (λc=>c=rq) w5 w6:=by rw[b0];exact(Fr.refl (λc=>c=rq) w5).set (p:=(Ad rq j)) (.inl rfl) _
   have g3:J.heap.size<=rq:=by rw[e7.o];exact(L.o.mid i a9).2
   have v5:A≠rq:=λe=>by
    obtain⟨c,R,_⟩:=(L.o.mid i a9).1;have H:=u.o;unfold BxM at H;rw[e,e7.o,R]at H;simp at H
   have v8:vg≠rq:=by rw[e7.o];exact Cj d3 (e6.mid i a9).1 (by decide)
   rw[<-b0]at Y;have h9:z2=(updT X i j z.1,0):=l7.o.trans<|ifn (by omega);have i2:(z.2:Int)=0:=by omega
   obtain⟨V,hV⟩:=exq<|z.1;have x5:updT X i j z.1 i j=V:=by rw[hV];unfold updT;rw[ifp ⟨rfl,rfl⟩]
   rw[<-hV]at d3;have HI:=qh (show (∃r s X',mvR D na x nb y i j 1 z2=(X',0)/\smT X'/\TW w6 J.heap.size g n1 n2 D.n r s X'/\X' i j=V)/\w6.rowIs vg 9 D.n (λp=>.string (V p))/\BxM w6 A D (.slice a D.n cp)/\Below J.heap.size J w6 from
    ⟨⟨_,_,_,h9,a8.o.upd r8.o,Y,x5⟩,b3.row d3 v8,(u.o.kept a5.o (λe=>e)).kept b3 v5,(m.o.trans (a5.o.below m.o.size (λ_ e=>e.elim))).trans (b3.below (Nat.le_trans m.o.size a5.o.size) (λc e=>by rw[e];exact g3))⟩)
   have I5:=qh (show z2.2=0 by rw[h9]);have g1:∀k e,k<=4->(mvR D na x nb y i j k z2).2=e->e≠0->Cn D sO na x nb y=(⟨#[]⟩,e):=λk e hk R H=>by
    rw[<-R]at H ⊢;exact Yr r7.o G4.o rfl H j9 k0 hk
   replace g1:=qh g1;clear e6 Y d3 b3 g3 v5 v8 hV a4 O a5 h9 x5 f4 l7 r8
   go_wp2_with fail
   rw[<-b0];clear b0 c1 c2 f2 L b2 a8 u m e7 r2
   conv=>arg 2;whnf
   obtain⟨⟨r6,s6,X6,x3,g5,Y,h6⟩,g8,j7,g0⟩:=HI.o;have G3:=qh<|show z2=(X6,0) from x3;clear x3;replace g5:=qh g5;have q8:=qh Y;clear Y;replace h6:=qh h6;replace g8:=qh g8;have e2:=qh j7;clear j7;replace g0:=qh g0;clear HI;refine Tx HV f7 hs G9 a6 a7 G6 f9 a9 d7 m4 e8 i6 m5 e9 i7 g1 G3 h6 g5 q8 g8 e2 g0 (qh ?xb) (qh ?xa) (qh ?xc)
   case xb=>exact λ_ _ d _ _ h=>by cases d<;>exact h
   case xa =>
    intro v6 v7 H7 H8 H9 I0 I1 I2 I3 x9 y0 y1 y2 y3 y4 y5 y6 y7 y8 y9 z3 z4 z5 z6 z7 z8 z9 A0 A1 A2 A3 A4 A5 A6 A7 A8 A9 B0 B1 B2 B3 B4 B5 B6 B7 B8 B9 C0 C1 C2 C3 C4 C5 C6 C7 C8 C9 D0 D1 D2 D3 D4 D5 D6 D7 D8 D9 E0 E1 E2 E3 E4 E5 E6 E7 E8 E9 F0 F1 F2 F3 F4 F5 F6 F7 w2 s2 X2 R H h3 h4 h5;rw[<-j5.o]at R;have l6:=qh R;clear R;have H2:=qh H;clear H;replace h3:=qh h3;replace h4:=qh h4;replace h5:=qh h5;go_wp2;go_roundw
    case rel=>exact⟨j+1,by omega,by go_num,⟨_,s2,X2,l6.o,H2.o,h3.o⟩,h4.o,h5.o⟩
    simp[intOf];omega
   case xc =>
    intro H7 H8 H9 I0 I1 I2 I3 x9 y0 y1 y2 y3 y4 y5 y6 y7 y8 y9 z3 z4 z5 z6 z7 z8 z9 A0 A1 A2 A3 A4 A5 A6 A7 A8 A9 B0 B1 B2 B3 B4 B5 B6 B7 B8 B9 C0 C1 C2 C3 C4 C5 C6 C7 C8 C9 D0 D1 D2 D3 D4 D5 D6 D7 D8 D9 E0 E1 E2 E3 E4 E5 E6 E7 E8 E9 F0 F1 F2 F3 F4 F5 F6 F7 w2 e R H;have S:=qh H;clear H;have HW:=qh R;clear R;go_wp2;go_ret2;exact⟨N.o.trans (S.o.mono N.o.size),.inl ⟨HV.o,b6.o,b7.o,sO,0,_,i5.o,rfl,by rw[ifn (by simp),HW.o];rfl⟩⟩
  have g2:j=n2:=by omega
  have n5:¬((j:Int)<=(nb:Int)):=by have:=a7.o;omega
  have d9:=b2.o;rw[g2,a7.o,<-p7.o]at d9;have l6:=qh d9;clear d9 g2;go_wp2;go_roundw
  case rel=>exact⟨i+1,by omega,by go_num,⟨r,s,X,l6.o,a8.o,L.o⟩,u.o,m.o⟩
  simp[intOf];omega
 have s5:i=n1:=by omega
 have n5:¬((i:Int)<=(na:Int)):=by have:=a6.o;omega
 have d9:=b2.o;rw[s5,a6.o]at d9;have o4:Cn D sO na x nb y=endR D (X na nb):=by unfold Cn;rw[d9,ifn (by simp)]
 replace o4:=qh o4;clear d9 s5;have n6:na<n1:=by have:=a6.o;omega
 have v3:nb<n2:=by have:=a7.o;omega
 have J5:(na:Int)<(n1:Int):=by omega
 have J6:(nb:Int)<(n2:Int):=by omega
 obtain⟨rq,f3⟩:=exq<|r na;obtain⟨vs,d8⟩:=exq<|s na nb;have U:∀W,Fr (λ_=>False) wr W->(λo:World=>o.cell? (Ad g na)=some (.slice (some ⟨rq,0,none⟩) n2 n2)/\o.cell? (Ad rq nb)=some (.slice (some ⟨vs,0,none⟩) D.n D.n)/\o.cell? (Ad A 0)=some (.int .i64 D.kind)/\o.cell? (Ad A 1)=some (.int .i64 D.start)/\o.cell? (Ad A 2)=some (.string D.lead)/\o.cell? (Ad A 3)=some (.slice a D.n cp)) W:=λW hf=>by
  have R:=L.o.new hf;have H:=u.o.kept hf (λe=>e);rw[f3,d8];exact⟨R.top.cell n6,(R.mid na n6).1.cell v3,cellOf H 0 rfl,cellOf H 1 rfl,cellOf H 2 rfl,cellOf H 3 rfl⟩
 have a4:=qh U;clear U;obtain⟨Q,F⟩:=exq<|wr.drew;have O:=qh (show Fr (λ_=>False) wr Q by rw[F];exact Fr.of_below ((Below.refl wr.heap.size wr).drew));have l5:=qh<|m.o.trans (O.o.below m.o.size (λ_ e=>e.elim));have b5:=SU Q HV.o (f7.o Q l5.o) (by rw[d8];exact(L.o.new O.o).vec na nb n6 v3) (a8.o na nb) (λq=>by have:=hs.o.fin q;unfold smS;unfold maxLen at this;omega) (vb:=vs) (v:=X na nb);rw[<-o4.o]at b5;obtain⟨zz,i2⟩:=exq<|Cn D sO na x nb y;rw[<-i2]at b5;have G5:=qh i2;clear i2;replace b5:=qh b5;clear f3 d8
 go_wp2_with fail
 have l:=a4.o Q O.o;refine AD (λo:World=>o.cell? (Ad g na)=some (.slice (some ⟨rq,0,none⟩) n2 n2)/\o.cell? (Ad rq nb)=some (.slice (some ⟨vs,0,none⟩) D.n D.n)/\o.cell? (Ad A 0)=some (.int .i64 D.kind)/\o.cell? (Ad A 1)=some (.int .i64 D.start)/\o.cell? (Ad A 2)=some (.string D.lead)/\o.cell? (Ad A 3)=some (.slice a D.n cp)) 14 (by kernel_rfl) ?_;rw[<-F];clear F;refine Aa.tm 0 l ?_;refine Aa.tm 1 l ?_;refine Aa.tm 2 l ?_;refine Aa.tm 3 l ?_;refine Aa.tm 4 l ?_;refine Aa.tm 5 l ?_;refine Aa.tm 6 l ?_;refine Aa.tm 7 l ?_;refine Aa.tm 8 l ?_;refine Aa.tm 9 l ?_
 try simp only[Act.put,tryL]
 refine Aa.on 10 λK I=>?_;go_simp;refine b5.o.mono ?_;rintro rr w5⟨rfl,Z⟩;have a5:=qh<|O.o.trans (Fr.of_below Z);have b1:=qh<|l5.o.trans (Z.mono l5.o.size);have B:=a4.o w5 a5.o;clear Z l;refine I.out _ _ (.inr B) ?_;clear I K
 try simp only[Act.put,tryL]
 refine Aa.tm 11 B ?_;refine Aa.tm 12 B ?_
 try simp only[Act.put,tryL]
 refine Aa.on 13 λK I=>?_;go_simp;refine I.out _ _ (.inr B) ?_;clear I K
 try simp only[Act.put,tryL]
 refine Aa.on 14 λK I=>?_;go_simp;refine I.out _ _ (.inl rfl) (Aa.dn ?_);clear I K B;go_wp2;go_ret2;exact⟨N.o.trans (b1.o.mono N.o.size),.inl ⟨HV.o,b6.o,b7.o,sO,0,zz,i5.o,by rw[ifn (by simp)];exact G5.o,rfl⟩⟩
end
section
open Go CSR
variable{D:MD}
def finB(k:Int)(s:ByteArray):Bool:=decide (s=⟨#[]⟩)||Am k s
def arcB(D:MD)(i k:Nat):Bool:=(decide (0<=D.ain i k)&&decide (D.ain i k<=500))&&(decide (0<=D.aout i k)&&decide (D.aout i k<=500))&&(decide (0<=D.ato i k)&&decide (D.ato i k<(D.n:Int)))&&Am D.kind (D.aw i k)
def vmB(D:MD):Bool:=As D.kind&&(decide (1<=D.n)&&decide (D.n<=3000))&&(decide (0<=D.start)&&decide (D.start<(D.n:Int)))&&Am D.kind D.lead&&decide (Ai D D.n<=30000)&&((List.range D.n).all λi=>finB D.kind (D.fin i)&&(List.range (D.na i)).all λk=>arcB D i k)
def De(h:vmB D=true):VM D:=by
 unfold vmB at h;simp only[Bool.and_eq_true,decide_eq_true_eq,List.all_eq_true,List.mem_range]at h;obtain⟨⟨⟨⟨⟨l,m,o⟩,p,s⟩,u⟩,z⟩,j⟩:=h;refine⟨l,m,o,p,s,u,z,λi hi=>?_,λi k hi A=>?_⟩
 ·have:=(j i hi).1;unfold finB at this
  simpa using this
 have:=(j i hi).2 k A;unfold arcB at this;simp only[Bool.and_eq_true,decide_eq_true_eq]at this;obtain⟨⟨⟨⟨a,b⟩,c,d⟩,e,f⟩,g⟩:=this;exact⟨a,b,c,d,e,f,g⟩
def selB(D:MD):Bool:=(List.range D.n).any λq=>(List.range (D.na q)).any λd=>silB (D.ain q d) (D.aout q d)
def Np:NoSel D silB↔selB D=false:=by
 unfold selB NoSel;simp only[List.any_eq_false,List.mem_range,Bool.not_eq_true];exact⟨λh q c d hd=>h q d c hd,λh q d c hd=>h q c d hd⟩
def VOk8(D:MD)(na:Nat)(x:Nat->Int)(nb:Nat)(y:Nat->Int)(s:ByteArray):Prop:=VM D/\isWord na x=true/\isWord nb y=true/\∀st e,Sil8 D silB st e->(if e≠0 then (⟨#[]⟩,e) else Cn D st na x nb y)=(s,0)
def DJ{na:Nat}{x:Nat->Int}{nb:Nat}{y:Nat->Int}{s:ByteArray}(l:VM D)(g:selB D=false)(h:(isWord na x&&isWord nb y&&decide (Cn D none na x nb y=(s,0)))=true):VOk8 D na x nb y s:=by
 simp only[Bool.and_eq_true,decide_eq_true_eq]at h;obtain⟨⟨i,j⟩,k⟩:=h;refine⟨l,i,j,λst e d=>?_⟩
 rcases d with⟨_,rfl,rfl⟩|⟨_,rfl,c,S,rfl,m⟩|⟨_,_,c⟩
 ·exact k
 ·exact absurd (Np.2 g) c
 exact absurd (Np.2 g) c
def CmpIs.closed{A B M:MD}{al:Nat->Bool}{n:Nat}(h:CmpIs A B al n M)(n0:Nat)(c:(itP A B al n0).1.length<=n0):M=(itP A B al n0).2:=by
 rw[h.eq,Tu (A:=A) (B:=B) (al:=al) (n:=n) (m:=n0) (by rw[h.len];omega) c]
end
section
open Go.RowKit Go.Deep
variable{x y:Nat->Int}{D:MD}{na nb:Nat}
def Wv(D:MD)(na:Nat)(x:Nat->Int)(nb:Nat)(y:Nat->Int)(z:ByteArray × Nat):Prop:=z.2=0->∀k:KK,k.1=D.kind->Sv k z.1 (rel (rmOf k D) (ls x na 0) (ls y nb 0))
def WvE(D:MD)(na:Nat)(x:Nat->Int)(nb:Nat)(y:Nat->Int)(w:World)(r:Ending)(w':World):Prop :=
 Below w.heap.size w w'/\∃z:ByteArray × Nat,r=.returned (.tuple #[.string z.1,.int .i64 (z.2:Int)])/\((VM D/\isWord na x=true/\isWord nb y=true/\Wv D na x nb y z)\/(¬(VM D/\isWord na x=true/\isWord nb y=true)/\z=(⟨#[]⟩,1)))
def isWord.ne{n:Nat}(h:isWord n x=true):∀i,i<n->x i≠0:=λi hi=>by
 unfold isWord at h;rw[Bool.and_eq_true]at h;have c:=Iq.1 h.2 i hi;omega
theorem Wg8G.v{w:World}{r:Ending}{w':World}(h:Wg8G D na x nb y w r w'):WvE D na x nb y w r w':=by
 refine⟨h.1,?_⟩
 rcases h.2 with⟨l,o,p,st,s,z,j,c,i⟩|⟨u,i⟩
 ·refine⟨z,i,.inl ⟨l,o,p,λd k m=>?_⟩⟩;by_cases g:s=0
  ·subst g;rw[ifn (by simp)]at c;rw[c]at d ⊢;exact Ys l m (j.st m) (isWord.ne o) (isWord.ne p) d
  rw[ifp g]at c;rw[c]at d;exact absurd d g
 exact⟨(⟨#[]⟩,1),i,.inr ⟨u,rfl⟩⟩
theorem Wv.eq{i:MD}{d:Nat}{o:Nat->Int}{g:Nat}{p:Nat->Int}{z l:ByteArray × Nat}(h:Wv D na x nb y z)(s:Wv i d o g p l)(A:VM D)(B:i.kind=D.kind)
  (C:∀k:KK,k.1=D.kind->rel (rmOf k D) (ls x na 0) (ls y nb 0)=rel (rmOf k i) (ls o d 0) (ls p g 0)) (E:z.2=0) (j:l.2=0):z.1=l.1:=by
 obtain⟨k,c⟩:=A.kk;have m:=h E k c;have u:=s j k (c.trans B.symm);rw[C k c]at m;exact m.text u
def PR{d g i:Value}(w:World)(j:Ma none w d D)(c:MSz D)(l:Si none w g na x)(m:Si none w i nb y):
  Calls prog 28 #[d,g,i] w (WvE D na x nb y w):=by
 obtain⟨sv,rfl,k⟩:=j;exact(PQ w k c l m).mono λ_ _ h=>h.v
def DI{K L N:Value}{s:ByteArray}(w:World)(O:Ma none w K D)(G:MSz D)(C:Si none w L na x)(E:Si none w N nb y)(c:VOk8 D na x nb y s):
  Calls prog 45 #[K,.int .i64 0,L,N] w (λr w'=>r=.returned (.string s)/\Below w.heap.size w w'):=by
 obtain⟨sv,rfl,u⟩:=O;obtain⟨a,k,_,_,_,_,_,_,B,_⟩:=u.open;obtain⟨Q,S,rfl⟩:=C.shape;obtain⟨R,T,rfl⟩:=E.shape;subst B;obtain⟨j,g⟩:=exq<|w.alloc (.cells #[.int .i64 D.kind,.int .i64 D.start,.string D.lead,.slice a D.n k] 25);have m:Fr (λ_=>False) w j:=by rw[g];exact Fr.alloc _ _
 have d:Below w.heap.size w j:=m.below nlr (λ_ e=>e.elim);have F:=qh<|PQ j (u.kept (Ae d none)) G (C.kept (Ae d none)) (E.kept (Ae d none));have o:j.heap[w.heap.size]?=some (.cells #[.int .i64 D.kind,.int .i64 D.start,.string D.lead,.slice a D.n k] 25 (0,0)):=by rw[g];exact han w _
 obtain⟨⟨m0,m1,I,J⟩,_⟩:=cells4 o;have i:=qh d;clear d m C E u G o;replace c:=qh c;rw[g]at m0 m1 I J
 go_enter func45,ntmps45
 go_wp2_with fail
 rw[<-g];clear g m0 m1 I J;refine F.o.mono ?_;rintro r U⟨l,P⟩;have p:=qh<|i.o.trans (l.mono i.o.size);clear l i F
 rcases P with⟨_,_,_,st,e,z,h,H,rfl⟩|⟨A,_⟩
 rotate_left
 ·exact absurd ⟨c.o.1,c.o.2.1,c.o.2.2.1⟩ A
 rw[c.o.2.2.2 st e h]at H;subst H;clear h;go_wp2;go_ret;exact⟨rfl,p.o⟩
def SG{E:MD}{mv nv xv yv:Value}(w:World)(hM:Ma none w mv D)(hN:Ma none w nv E)(O:MSz D)(C:MSz E)(hx:Si none w xv na x)(hy:Si none w yv nb y)
  (hq:∀z z',VM D->VM E->isWord na x=true->isWord nb y=true->Wv D na x nb y z->Wv E na x nb y z'->z.2=0->z'.2=0->z.1=z'.1) :
  Calls prog 18 #[mv,nv,xv,yv] w (TrueB w):=by
 obtain⟨sv,rfl,hS⟩:=hM;obtain⟨sw,rfl,u⟩:=hN;obtain⟨a,s,_,_,_,_,_,_,a5,_⟩:=hS.open;obtain⟨a2,j,_,_,_,_,_,_,a6,_⟩:=u.open;obtain⟨ax,cx,rfl⟩:=hx.shape;obtain⟨ay,cy,rfl⟩:=hy.shape;subst a5;subst a6;have Z:=qh<|show ∀W,Below w.heap.size w W->Ma none W (.agg #[.int .i64 D.kind,.int .i64 D.start,.string D.lead,.slice a D.n s]) D from λW h=>⟨_,rfl,hS.kept (Ae h none)⟩;have a1:=qh<|show ∀W,Below w.heap.size w W->Ma none W (.agg #[.int .i64 E.kind,.int .i64 E.start,.string E.lead,.slice a2 E.n j]) E from λW h=>⟨_,rfl,u.kept (Ae h none)⟩;have H:=qh<|show ∀W,Below w.heap.size w W->Si none W (.slice ax na cx) na x from λW h=>hx.kept (Ae h none);have I:=qh<|show ∀W,Below w.heap.size w W->Si none W (.slice ay nb cy) nb y from λW h=>hy.kept (Ae h none);obtain⟨o,d⟩:=exq<|w.alloc (.cells #[.int .i64 D.kind,.int .i64 D.start,.string D.lead,.slice a D.n s] 25);obtain⟨p,l⟩:=exq<|o.alloc (.cells #[.int .i64 E.kind,.int .i64 E.start,.string E.lead,.slice a2 E.n j] 25);have m:o.heap.size=w.heap.size+1:=by rw[d];simp
 have J:Below w.heap.size w o:=by rw[d];exact(Below.refl _ w).alloc nlr _
 have A:Below o.heap.size o p:=by rw[l];exact(Below.refl _ o).alloc nlr _
 have L:p.heap[w.heap.size]?=some (.cells #[.int .i64 D.kind,.int .i64 D.start,.string D.lead,.slice a D.n s] 25 (0,0)):=(A.block _ (by omega)).trans (by rw[d];exact han w _);have N:p.heap[w.heap.size+1]?=some (.cells #[.int .i64 E.kind,.int .i64 E.start,.string E.lead,.slice a2 E.n j] 25 (0,0)):=by rw[<-m,l];exact han o _
 have c:=J.trans<|A.mono (by omega);obtain⟨⟨m0,m1,U,X⟩,_⟩:=cells4 L;have i:=qh N;clear N L;have G:=qh<|PR (D:=D) p (Z.o p c) O (H.o p c) (I.o p c);have g:=qh c;clear c J A m;replace C:=qh C;clear O;replace hq:=qh hq;clear hS u hx hy;obtain⟨a8,k⟩:∃b,b=w.heap.size+1:=⟨_,rfl⟩;rw[<-k]at i;rw[l,d]at m0 m1 U X
 go_enter func18,ntmps18
 go_wp2_with fail
 rw[<-d,<-l,<-k];clear d l k m0 m1 U X;refine G.o.mono ?_;rintro r Y⟨B,⟨S,Q⟩,rfl,m⟩;replace i:=qh<|(B.block _ (lbk i.o)).trans i.o;replace g:=qh<|g.o.trans (B.mono g.o.size);clear B G;have a4:=qh m;clear m;obtain⟨⟨m0,m1,U,X⟩,_⟩:=cells4 i.o;have G:=qh<|PR (D:=E) Y (a1.o Y g.o) C.o (H.o Y g.o) (I.o Y g.o)
 go_wp2_with fail
 clear m0 m1 U X;refine G.o.mono ?_;rintro r w4⟨K,⟨T,R⟩,rfl,F⟩;replace g:=qh<|g.o.trans (K.mono g.o.size);clear K G;replace F:=qh F;by_cases h1:Q=0
 ·subst h1;by_cases h2:R=0
  ·subst h2;have P:S=T:=by
    rcases a4.o with⟨v1,x1,y1,k1⟩|⟨_,k1⟩
    ·rcases F.o with⟨v2,_,_,k2⟩|⟨_,k2⟩
     ·exact hq.o (S,0) (T,0) v1 v2 x1 y1 k1 k2 rfl rfl
     simp at k2
    simp at k1
   subst P;go_wp2;go_ret;exact⟨rfl,g.o⟩
  have a7:¬((R:Int)=0):=by omega
  clear h2;go_wp2;go_ret;exact⟨rfl,g.o⟩
 have a7:¬((Q:Int)=0):=by omega
 clear h1;go_wp2;go_ret;exact⟨rfl,g.o⟩
end
end Go.Proofs.YtpldocnhbdlgfaaGreatDoor
