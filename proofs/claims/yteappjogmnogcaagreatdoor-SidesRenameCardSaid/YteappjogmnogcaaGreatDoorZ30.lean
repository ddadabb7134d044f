/- Parts. -/
import Derived.Test.YteappjogmnogcaaGreatDoorZ22
import Derived.Test.YteappjogmnogcaaGreatDoorZ19
import Derived.Test.YteappjogmnogcaaGreatDoorZ21
namespace Go.Proofs.YteappjogmnogcaaGreatDoor
set_option maxRecDepth 100000
set_option linter.all false
set_option maxHeartbeats 16000000
open Go Tryz
section
open Go.RowKit Go.Deep
def sel8(lo:Bool)(i o:Int):Bool:=decide (i=0)&&(decide (o=0)||lo)
theorem YI:sel8 false=silB:=by funext i o;unfold sel8 silB;simp
def sr8(D:MD)(sel:Int->Int->Bool)(q:Nat):Nat->Nat->ByteArray
 |0=>zerR D.kind
 |d+1=>if sel (D.ain q d) (D.aout q d)=true then updS (sr8 D sel q d) (D.ato q d).toNat (Am D.kind (sr8 D sel q d (D.ato q d).toNat) (D.aw q d)).1 else sr8 D sel q d
def so8(D:MD)(sel:Int->Int->Bool)(q d:Nat):Prop:=∀d',d' < d->sel (D.ain q d') (D.aout q d')=true->(Am D.kind (sr8 D sel q d' (D.ato q d').toNat) (D.aw q d')).2=0
def sm8(D:MD)(sel:Int->Int->Bool)(q:Nat):Nat->ByteArray:=sr8 D sel q (D.na q)
theorem Iz{D:MD}{sel:Int->Int->Bool}{q:Nat}:∀d j,smS (sr8 D sel q d j)
 |0,_=>Dk D.kind
 |d+1,j=>by
  unfold sr8
  split
  ·exact GJ (Iz d) (Ic _ _ _) j
  exact Iz d j
def Sil8(D:MD)(sel:Int->Int->Bool)(st:StarO)(e:Nat):Prop :=
 (NoSel D sel/\st=none/\e=0)\/
 (D.n<=60/\e=0/\∃S,st=some S/\∀k:KK,k.1=D.kind->∀q p,q<D.n->p<D.n->Sv k (S q p) (CSR.starM (sils (rmOf k D) sel) D.n q p))\/
 (e≠0/\st=none)
theorem Sil8.st{D:MD}{st:StarO}(h:Sil8 D silB st 0){k:KK}(o:k.1=D.kind):StOk k D st:=by
 rcases h with⟨d,rfl,_⟩|⟨_,_,S,rfl,m⟩|⟨d,_⟩
 ·intro q p c g;rw[<-Qj];exact SilOk.nosil d k q p c
 ·intro q p c g;have l:=m k o q p c g;rw[CSR.starM_congr (M':=sil (rmOf k D)) (λi j _ _=>Qj _ i j) q p c g]at l;exact l
 exact absurd rfl d
section
open CSR
variable{D:MD}(hV:VM D){k:KK}(hk:k.1=D.kind)
include hV hk
theorem Qo{sel:Int->Int->Bool}{q:Nat}(hq:q<D.n):∀(d:Nat),d<=D.na q->so8 D sel q d ->
  ∀p,p<D.n->Sv k (sr8 D sel q d p) (sum (λd=>if sel ((rmOf k D).ain q d) ((rmOf k D).aout q d)=true/\(rmOf k D).ato q d=p then (rmOf k D).aw q d else zero) d)
 |0,_,_=>λp hp=>by
  show Sv k (Af D.kind) zero;rw[<-hk];exact Sv.zero
 |d+1,hd,ho=>λp hp=>by
  have ih:=Qo hq (sel:=sel) d (by omega) (λd' h=>ho d' (by omega));have ha:=hV.arc q d hq (by omega);have ht:(D.ato q d).toNat<D.n:=by have:=ha.t0;have:=ha.t1;omega
  have hw:=FD hk ha.wt;show Sv k _ (sum _ d+(if sel (D.ain q d) (D.aout q d)=true/\(D.ato q d).toNat=p then wval k (D.aw q d) else zero))
  unfold sr8;by_cases hm:sel (D.ain q d) (D.aout q d)=true
  ·rw[ifp hm];have h0:=ho d (by omega) hm;have h1:(Am k.1 (sr8 D sel q d (D.ato q d).toNat) (D.aw q d)).2=0:=(congrArg (λz=>(Am z (sr8 D sel q d (D.ato q d).toNat) (D.aw q d)).2) hk).trans h0;have h2:=Ie (ih _ ht) hw h1;have h3:(Am k.1 (sr8 D sel q d (D.ato q d).toNat) (D.aw q d)).1=(Am D.kind (sr8 D sel q d (D.ato q d).toNat) (D.aw q d)).1:=congrArg (λz=>(Am z (sr8 D sel q d (D.ato q d).toNat) (D.aw q d)).1) hk;rw[h3]at h2;unfold updS;by_cases e:p=(D.ato q d).toNat
   ·rw[ifp e,ifp ⟨hm,e.symm⟩,e];exact h2
   rw[ifn e,ifn (λh=>e h.2.symm),a0];exact ih p hp
  rw[ifn hm,ifn (λh=>hm h.1),a0];exact ih p hp
theorem Ql{sel:Int->Int->Bool}(d:∀q,q<D.n->so8 D sel q (D.na q)){q p:Nat}(c:q<D.n)(g:p<D.n):Sv k (sm8 D sel q p) (sils (rmOf k D) sel q p):=Qo hV hk c (D.na q) nlr (d q c) p g
theorem YU{sel:Int->Int->Bool}(g:∀q,q<D.n->so8 D sel q (D.na q)):Sq D.kind D.n (λ_=>D.n) (sm8 D sel):=λi hi=>⟨rfl,λj d=>by
 have h:=Ql hV hk g hi d;have c:vprs D.kind (sm8 D sel i j)=some (sils (rmOf k D) sel i j).1:=(congrArg (λz=>vprs z (sm8 D sel i j)) hk).symm.trans h.prs;unfold Ah;rw[c];rfl⟩
end
structure S8I(D:MD)(sel:Int->Int->Bool)(w wr:World)(mb g:Nat)(sv:Value)(rb:Nat->Nat)(q:Nat):Prop where
 bx:BxM wr mb D sv
 be:Below w.heap.size w wr
 gr:wr.rowIs g 79 D.n (λi=>if i<q then .slice (some (Ad (rb i) 0)) D.n D.n else .slice none 0 0)
 rows:∀i,i<q->wr.rowIs (rb i) 9 D.n (λj=>.string (sm8 D sel i j))
 gl:w.heap.size<=g
 mg:mb≠g
structure S8R(D:MD)(sel:Int->Int->Bool)(w wr:World)(mb g:Nat)(sv:Value)(rb:Nat->Nat)(q lb:Nat)(l:Nat->ByteArray):Prop where
 bx:BxM wr mb D sv
 be:Below w.heap.size w wr
 gr:wr.rowIs g 79 D.n (λi=>if i<q+1 then .slice (some (Ad (if i=q then lb else rb i) 0)) D.n D.n else .slice none 0 0)
 rows:∀i,i<q->wr.rowIs (rb i) 9 D.n (λj=>.string (sm8 D sel i j))/\rb i≠lb
 rl:wr.rowIs lb 9 D.n (λj=>.string (l j))
 gl:w.heap.size<=g
 mg:mb≠g
 ll:w.heap.size<=lb
 ml:mb≠lb
 nl:g≠lb
section
variable{D:MD}{sel:Int->Int->Bool}{w wr wz:World}{mb g lb q:Nat}{sv:Value}{rb:Nat->Nat}{l:Nat->ByteArray}
def S8I.new(h:S8I D sel w wr mb g sv rb q)(hf:Fr (λ_=>False) wr wz):S8I D sel w wz mb g sv rb q :=
 ⟨h.bx.kept hf (λe=>e),h.be.trans (hf.below h.be.size (λ_ e=>e.elim)),hf.row h.gr (λe=>e),λi hi=>hf.row (h.rows i hi) (λe=>e),h.gl,h.mg⟩
def S8R.new(h:S8R D sel w wr mb g sv rb q lb l)(hf:Fr (λ_=>False) wr wz):S8R D sel w wz mb g sv rb q lb l :=
 ⟨h.bx.kept hf (λe=>e),h.be.trans (hf.below h.be.size (λ_ e=>e.elim)),hf.row h.gr (λe=>e),λi hi=>⟨hf.row (h.rows i hi).1 (λe=>e),(h.rows i hi).2⟩,hf.row h.rl (λe=>e),h.gl,h.mg,h.ll,h.ml,h.nl⟩
def S8I.lay(h:S8I D sel w wr mb g sv rb q)(hf:Fr (λ_=>False) wr wz)(B:wr.heap.size<=lb)(z:wz.rowIs lb 9 D.n (λj=>.string (zerR D.kind j))):S8R D sel w (wz.setCell (Ad g q) (.slice (some (Ad lb 0)) D.n D.n)) mb g sv rb q lb (sr8 D sel q 0):=by
 have d:=h.new hf;have s:=h.gr.lt;have k:Fr (λc=>c=g) wz (wz.setCell (Ad g q) (.slice (some (Ad lb 0)) D.n D.n)):=(Fr.refl (λc=>c=g) wz).set (p:=(Ad g q)) (.inl rfl) _;have u:mb<wr.heap.size:=(Array.getElem?_eq_some_iff.1 (show wr.heap[mb]?=_ from h.bx)).1;refine⟨d.bx.kept k d.mg,d.be.trans (k.below d.be.size (λc e=>by rw[e];exact h.gl)),(d.gr.set q _).congr (λi _=>?_),λi hi=>⟨k.row (d.rows i hi) (λe=>?_),λe=>?_⟩,k.row z (λe=>?_),h.gl,h.mg,?_,?_,?_⟩
 ·show _=if i<q+1 then _ else _
  by_cases e:i=q
  ·subst e;simp
  by_cases m:i<q
  ·simp[e,m,show i<q+1 by omega]
  simp[e,m,show ¬i<q+1 by omega]
 ·have l:=(d.rows i hi);rw[e]at l;obtain⟨A,o,_⟩:=d.gr;exact AA l o (by decide) rfl
 ·have l:=(h.rows i hi).lt;omega
 ·omega
 ·have:=h.be.size;omega
 ·omega
 omega
theorem S8R.put(h:S8R D sel w wr mb g sv rb q lb l)(t:Nat)(s:ByteArray):S8R D sel w (wr.setCell (Ad lb t) (.string s)) mb g sv rb q lb (updS l t s):=by
 have d:Fr (λc=>c=lb) wr (wr.setCell (Ad lb t) (.string s)):=(Fr.refl (λc=>c=lb) wr).set (p:=(Ad lb t)) (.inl rfl) _;refine⟨h.bx.kept d h.ml,h.be.trans (d.below h.be.size (λc e=>by rw[e];exact h.ll)),d.row h.gr h.nl,λi hi=>⟨d.row (h.rows i hi).1 (h.rows i hi).2,(h.rows i hi).2⟩,(h.rl.set t _).congr (λj _=>?_),h.gl,h.mg,h.ll,h.ml,h.nl⟩;show _=Value.string (updS l t s j);unfold updS;by_cases e:j=t
 ·rw[ifp e,ifp e]
 rw[ifn e,ifn e]
theorem S8R.done(h:S8R D sel w wr mb g sv rb q lb (sr8 D sel q (D.na q))):S8I D sel w wr mb g sv (λi=>if i=q then lb else rb i) (q+1) :=
 ⟨h.bx,h.be,h.gr,λi hi=>by
  by_cases e:i=q
  ·subst e;simp only[if_pos];exact h.rl
  simp only[ifn e];exact(h.rows i (by omega)).1,h.gl,h.mg⟩
def S8I.mt(h:S8I D sel w wr mb g sv rb D.n)(hn:D.n<=60):Mt none wr (.slice (some (Ad g 0)) D.n D.n) D.n (λ_=>D.n) (sm8 D sel):=by
 refine⟨λi=>.slice (some (Ad (rb i) 0)) D.n D.n,?_,λi hi=>?_⟩
 ·refine .inr ⟨g,0,D.n,rfl,⟨h.gr.lt,by simp⟩,nlr,by unfold maxLen;omega,λi hi=>?_⟩;have c:=h.gr.cell hi;rw[ifp hi]at c;rw[Nat.zero_add];exact c
 have d:=h.rows i hi;exact .inr ⟨rb i,0,D.n,rfl,⟨d.lt,by simp⟩,nlr,by unfold maxLen;omega,λj k=>by rw[Nat.zero_add];exact d.cell k⟩
end
def SlE8(D:MD)(sel:Int->Int->Bool)(w:World)(r:Ending)(w':World):Prop:=Below w.heap.size w w'/\∃v st e,r=.returned (.tuple #[v,.int .i64 (e:Nat)])/\StV w' v D.n st/\Sil8 D sel st e
def Qh{D:MD}{sv:Value}{lo:Bool}(w:World)(hV:VM D)(hD:StS none w sv D)(f2:∀i k,smS (D.aw i k)):
  Calls prog 52 #[.agg #[.int .i64 D.kind,.int .i64 D.start,.string D.lead,sv],.bool lo] w (SlE8 D (sel8 lo) w):=by
 obtain⟨a,cp,b,f5,A,C,BB,O,rfl,ha,hc,hm,hb,b7⟩:=hD.open;unfold maxLen at hm;have k0:D.n<=3000:=hV.n2;have j9:=run_make_row' (P:=prog) 75 79 (.slice none 0 0) 24 underlying75 Ff rfl .i64 .i64 D.n (by omega) (by omega);obtain⟨w1,b0⟩:=exq<|w.alloc (.cells #[.int .i64 D.kind,.int .i64 D.start,.string D.lead,.slice a D.n cp] 24);obtain⟨mb,d1⟩:=exq<|w.heap.size;have j2:w1.heap.size=w.heap.size+1:=by rw[b0];simp
 have h9:Fr (λ_=>False) w w1:=by rw[b0];exact Fr.alloc _ _
 have e6:BxM w1 mb D (.slice a D.n cp):=by rw[b0,d1];exact BxM.new w D _
 obtain⟨w2,d4⟩:=exq<|w1.alloc (.cells (madeCells #[.slice none 0 0] D.n) 79);obtain⟨g,hg⟩:=exq<|w.heap.size+1;have e7:Fr (λ_=>False) w1 w2:=by rw[d4];exact Fr.alloc _ _
 have i8:w2.rowIs g 79 D.n (λ_=>.slice none 0 0):=by rw[d4,hg,<-j2];exact World.rowIs_made w1 _ _ _
 obtain⟨sel,U⟩:=exq<|sel8 lo;have o:=qh (show S8I D sel w w2 mb g (.slice a D.n cp) (λ_=>0) 0 from ⟨e6.kept e7 (λe=>e),(h9.trans e7).below nlr (λ_ e=>e.elim),i8.congr (λi _=>by simp),λi hi=>absurd hi (Nat.not_lt_zero _),by omega,by omega⟩);rw[<-U];replace U:=qh U;replace hV:=qh hV;replace ha:=qh ha;replace hb:=qh hb;replace b7:=qh b7;clear hD;replace f2:=qh f2;have m3:=cellOf e6 3 rfl;have l3:=m3;rw[b0,d1]at l3;clear h9 e7 i8 e6 hc j2
 go_enter func52,ntmps52
 go_wp2_with fail
 rw[<-b0,<-d4,<-hg,<-d1];clear b0 d4 hg d1 m3 l3 j9
 go_loopw [7,8] (λv7 v8 wr=>∃(q:Nat) (bb:Bool) (rb:Nat->Nat),q<=D.n/\v7=.bool bb/\v8=.int .i64 (q:Int)/\S8I D sel w wr mb g (.slice a D.n cp) rb q/\(bb=false->∀s d,s<q->d<D.na s->sel (D.ain s d) (D.aout s d)=false)/\(∀s,s<q->so8 D sel s (D.na s))) (λ_ v8 _=>D.n-(intOf v8).toNat)
 case atStart=>exact⟨0,false,_,Nat.zero_le _,rfl,rfl,o.o,λ_ s d h=>absurd h (Nat.not_lt_zero _),λs h=>absurd h (Nat.not_lt_zero _)⟩
 obtain⟨q,bb,rb,hq,rfl,rfl,hi,B,b8⟩:=hrel;clear o;have o:=qh hi;clear hi;have g6:=qh B;clear B;have g7:=qh b8;clear b8;by_cases d0:q<D.n
 ·have m7:(q:Int)<(D.n:Int):=by omega
  have l7:(0:Int)<=(q:Int):=by omega
  obtain rfl:=ha.o (by omega);have j5:=(hb.o (by omega)).1;obtain⟨k1,k2,k3,k4,k5,k6,k7⟩:=b7.o q d0;unfold maxLen at k4;have l6:D.na q<=30000:=by have J:=Nat.le_trans (BA D (show q+1<=D.n by omega)) hV.o.arcs;have H:Ac D (q+1)=Ac D q+D.na q:=rfl;omega
  obtain⟨aq,h0⟩:=exq<|A q;rw[<-h0]at k2 k5;replace k2:=qh k2;replace k5:=qh k5;replace k6:=qh k6;replace k7:=qh k7;clear h0 k1;have m0:=cellOf o.o.bx 0 rfl;have m1:=cellOf o.o.bx 1 rfl;have m2:=cellOf o.o.bx 2 rfl;have m3:=cellOf o.o.bx 3 rfl;have HZ:=qh<|FG (D:=D) (a:=some (Ad b f5)) (cap:=cp) wr k0
  go_wp2_with fail
  refine HZ.o.mono ?_;rintro rr w3⟨h5,lb,rfl,i4,i9⟩;have e8:Fr (λ_=>False) wr w3:=Fr.of_below h5;have f1:=e8.row o.o.gr (λe=>e);have c0:=f1.cell d0;have f0:=f1.frozen q;have e9:=o.o.lay e8 i4 i9;clear h5 e8 i4 i9 HZ m0 m1 m2 m3 f1;obtain⟨w4,f3⟩:=exq<|w3.setCell ⟨g,q,none⟩ (.slice (some ⟨lb,0,none⟩) D.n D.n);rw[<-f3]at e9;clear o;have o:=qh e9;clear e9
  go_wp2_with fail
  rw[<-f3];clear f3 c0 f0
  go_loopw [7,9] (λv7 v9 wr=>∃(d:Nat) (bb:Bool),d<=D.na q/\v7=.bool bb/\v9=.int .i64 (d:Int)/\S8R D sel w wr mb g (.slice (some (Ad b f5)) D.n cp) rb q lb (sr8 D sel q d)/\(bb=false->(∀s d,s<q->d<D.na s->sel (D.ain s d) (D.aout s d)=false)/\∀F,F<d->sel (D.ain q F) (D.aout q F)=false)/\so8 D sel q d) (λ_ v9 _=>D.na q-(intOf v9).toNat)
  case atStart=>exact⟨0,bb,Nat.zero_le _,rfl,rfl,o.o,λe=>⟨g6.o e,λF h=>absurd h (Nat.not_lt_zero _)⟩,λF h=>absurd h (Nat.not_lt_zero _)⟩
  obtain⟨d,b2,hd,rfl,rfl,hi,B,b8⟩:=hrel;clear o;have o:=qh hi;clear hi;have b3:=qh B;clear B;have d6:=qh b8;clear b8;have m3:=cellOf o.o.bx 3 rfl;have c1:=(o.o.be.cell (p:=(Ad b (f5+q*2+1))) j5).trans k2.o;by_cases h8:d<D.na q
  ·have m5:(d:Int)<(D.na q:Int):=by omega
   have l5:(0:Int)<=(d:Int):=by omega
   have c9:=(k6.o (by omega)).1;obtain⟨t0,t1,t2,t3⟩:=k7.o d h8;obtain rfl:=k5.o (by omega);have c2:=(o.o.be.cell (p:=(Ad (BB q) (O q+d*4))) c9).trans t0;have c3:=(o.o.be.cell (p:=(Ad (BB q) (O q+d*4+1))) c9).trans t1;have c4:=(o.o.be.cell (p:=(Ad (BB q) (O q+d*4+2))) c9).trans t2;have c5:=(o.o.be.cell (p:=(Ad (BB q) (O q+d*4+3))) c9).trans t3;clear t0 t1 t2 t3;have b5:=hV.o.arc q d d0 h8;obtain⟨t,ht⟩:∃t:Nat,D.ato q d=(t:Int):=⟨(D.ato q d).toNat,by have:=b5.t0;omega⟩;have l0:t<D.n:=by have:=b5.t1;omega
   have m8:(t:Int)<(D.n:Int):=by omega
   have l8:(0:Int)<=(t:Int):=by omega
   rw[ht]at c5;obtain⟨l,hl⟩:=exq<|sr8 D sel q d;have j8:∀j,smS (l j):=by rw[hl];exact Iz d
   have i5:sr8 D sel q (d+1)=if sel (D.ain q d) (D.aout q d)=true then updS l t (Am D.kind (l t) (D.aw q d)).1 else l:=by
    show (if _ then updS (sr8 D sel q d) (D.ato q d).toNat _ else sr8 D sel q d)=_
    rw[ht,Int.toNat_natCast,<-hl]
   have i6:∀F,F<d+1->(F=d->sel (D.ain q d) (D.aout q d)=true->(Am D.kind (l t) (D.aw q d)).2=0)->sel (D.ain q F) (D.aout q F)=true->(Am D.kind (sr8 D sel q F (D.ato q F).toNat) (D.aw q F)).2=0:=λF J H h3=>by
    by_cases e:F=d
    ·subst e;rw[ht,Int.toNat_natCast,<-hl];exact H rfl h3
    exact d6.o F (by omega) h3
   rw[<-hl]at o;have Z:=qh i5;clear i5 hl;have a2:=qh i6;clear i6 b5;obtain⟨ai,e4⟩:=exq<|D.ain q d;obtain⟨ao,b4⟩:=exq<|D.aout q d;obtain⟨aw,e5⟩:=exq<|D.aw q d;have h4:smS aw:=by rw[e5];exact f2.o q d
   rw[<-e4]at c2 Z a2;rw[<-b4]at c3 Z a2;rw[<-e5]at c4 Z a2;have g3:=qh b4;clear b4;have g2:=qh e4;clear e4 e5 ht;obtain⟨w5,N⟩:=exq<|wr.alloc (.cells #[.int .i64 ai,.int .i64 ao,.string aw,.int .i64 (t:Int)] 59);obtain⟨xb,b1⟩:=exq<|wr.heap.size;have i2:Fr (λ_=>False) wr w5:=by rw[N];exact Fr.alloc _ _
   have d5:w5.heap[xb]?=some (.cells #[.int .i64 ai,.int .i64 ao,.string aw,.int .i64 (t:Int)] 59 (0,0)):=by rw[N,b1];exact han wr _
   have i3:=o.o.new i2;clear o;have o:=qh i3;clear i3;have x0:=cellOf d5 0 rfl;have x1:=cellOf d5 1 rfl;have g8:=qh d5;rw[N,b1]at x0 x1;clear i2 d5;by_cases u:sel ai ao=true
   ·have a3:ai=0/\(ao=0\/(¬ao=0/\lo=true)):=by
     rw[U.o]at u;unfold sel8 at u;simp only[Bool.and_eq_true,Bool.or_eq_true,decide_eq_true_eq]at u;refine⟨u.1,?_⟩;by_cases e:ao=0
     ·exact .inl e
     exact .inr ⟨e,u.2.resolve_left e⟩
    have T:=Z.o;rw[ifp u]at T;have a9:(Am D.kind (l t) aw).2=0->so8 D sel q (d+1):=λh F J H=>a2.o F J (λ_ _=>h) H;obtain⟨z,hz⟩:=exq<|Am D.kind (l t) aw;rw[<-hz]at T a9;have g5:=qh T;clear T;have a1:=qh a9;clear a9;clear Z a2;have S:∀W,Fr (λ_=>False) w5 W->(λE:World=>E.cell? (Ad mb 0)=some (.int .i64 D.kind)/\E.cell? (Ad g q)=some (.slice (some (Ad lb 0)) D.n D.n)/\E.cell? (Ad xb 3)=some (.int .i64 (t:Int))/\E.cell? (Ad lb t)=some (.string (l t))/\E.cell? (Ad xb 2)=some (.string aw)) W:=λW hf =>
     ⟨hf.cell (cellOf o.o.bx 0 rfl) (λe=>e),hf.cell (by have J:=o.o.gr.cell d0;rw[ifp (by omega),ifp rfl]at J;exact J) (λe=>e),hf.cell (cellOf g8.o 3 rfl) (λe=>e),hf.cell (o.o.rl.cell l0) (λe=>e),hf.cell (cellOf g8.o 2 rfl) (λe=>e)⟩
    replace S:=qh S;have hp:=λW=>Ij D.kind (l t) aw W (j8 t) h4;rw[<-hz]at hp;have HP:=qh hp;clear hp hz;obtain⟨wd,c7⟩:=exq<|w5.drew;have c8:=qh (show Fr (λ_=>False) w5 wd by rw[c7];exact Fr.of_below ((Below.refl w5.heap.size w5).drew));obtain⟨J,H⟩:=a3;subst J
    rcases H with H|⟨H,h3⟩
    ·subst H
     go_wp2_with fail
     rw[<-N,<-b1];clear N b1 x0 x1;have c:=S.o wd c8.o;refine Au (λE:World=>E.cell? (Ad mb 0)=some (.int .i64 D.kind)/\E.cell? (Ad g q)=some (.slice (some (Ad lb 0)) D.n D.n)/\E.cell? (Ad xb 3)=some (.int .i64 (t:Int))/\E.cell? (Ad lb t)=some (.string (l t))/\E.cell? (Ad xb 2)=some (.string aw)) 17 (by kernel_rfl) ?_;rw[<-c7];clear c7;refine Aa.tm 0 c ?_;refine Aa.tm 1 c ?_;refine Aa.tm 2 c ?_;refine Aa.tm 3 c ?_;refine Aa.tm 4 c ?_;refine Aa.tm 5 c ?_;refine Aa.tm 6 c ?_;refine Aa.tm 7 c ?_;refine Aa.tm 8 c ?_;refine Aa.tm 9 c ?_;refine Aa.tm 10 c ?_;refine Aa.tm 11 c ?_
     try simp only[Act.put,tryL]
     refine Aa.on 12 λK I=>?_;go_simp;refine(HP.o wd).mono ?_;rintro rr w6⟨rfl,b6⟩;have X:=qh<|c8.o.trans (Fr.of_below b6);have G:=S.o w6 X.o;clear b6 c HP;refine I.out _ _ (.inr G) ?_;clear I K
     try simp only[Act.put,tryL]
     refine Aa.tm 13 G ?_;refine Aa.tm 14 G ?_;refine Aa.tm 15 G ?_
     try simp only[Act.put,tryL]
     refine Aa.on 16 λK I=>?_;go_simp;refine I.out _ _ (.inr G) ?_;clear I K
     try simp only[Act.put,tryL]
     refine Aa.on 17 λK I=>?_;go_simp;refine I.out _ _ (.inl rfl) (Aa.dn ?_);clear I K G;have L:=o.o.new X.o;by_cases a7:z.2=0
     ·have f4:(z.2:Int)=0:=by omega
      have R:=qh<|a1.o a7;obtain⟨we,a6⟩:=exq<|w6.drew;have a4:Fr (λ_=>False) w6 we:=by rw[a6];exact Fr.of_below<|(Below.refl w6.heap.size w6).drew
      have m:=S.o we (X.o.trans a4);have a5:=L.new a4;have f0:=a5.rl.frozen t;have d9:=qh a5;clear a5 L;clear o a1 a4
      go_wp2_with fail
      refine Au (λE:World=>E.cell? (Ad mb 0)=some (.int .i64 D.kind)/\E.cell? (Ad g q)=some (.slice (some (Ad lb 0)) D.n D.n)/\E.cell? (Ad xb 3)=some (.int .i64 (t:Int))/\E.cell? (Ad lb t)=some (.string (l t))/\E.cell? (Ad xb 2)=some (.string aw)) 8 (by kernel_rfl) ?_;rw[<-a6];clear a6;refine Aa.tm 0 m ?_;refine Aa.tm 1 m ?_;refine Aa.tm 2 m ?_;refine Aa.tm 3 m ?_;refine Aa.tm 4 m ?_;refine Aa.tm 5 m ?_;refine Aa.tm 6 m ?_;refine Aa.tm 7 m ?_
      try simp only[Act.put,tryL]
      refine Aa.on 8 λK I=>?_;obtain⟨f7,f8,f9,g0,g1⟩:=m;go_simp;refine I.out _ _ (.inl rfl) (Aa.dn ?_);clear I K f7 f8 f9 g0 g1 f0;go_wp2;go_roundw
      case rel=>exact⟨d+1,true,by omega,rfl,by go_num,by rw[g5.o];exact d9.o.put t z.1,λe=>(by cases e),R.o⟩
      simp[intOf];omega
     have f4:¬((z.2:Int)=0):=by omega
     have l1:((z.2:Int)==0)=false:=by simp;omega
     have l2:decide ((z.2:Int)=0)=false:=by simp;omega
     have d8:=qh L;clear L;have e1:=qh a7;clear a7;go_wp2;go_ret2;exact⟨d8.o.be,_,none,z.2,rfl,rfl,.inr (.inr ⟨e1.o,rfl⟩)⟩
    have j3:(ao==0)=false:=by simp[H]
    have j4:decide (ao=0)=false:=by simp[H]
    subst h3
    go_wp2_with fail
    rw[<-N,<-b1];clear N b1 x0 x1;have c:=S.o wd c8.o;refine Au (λE:World=>E.cell? (Ad mb 0)=some (.int .i64 D.kind)/\E.cell? (Ad g q)=some (.slice (some (Ad lb 0)) D.n D.n)/\E.cell? (Ad xb 3)=some (.int .i64 (t:Int))/\E.cell? (Ad lb t)=some (.string (l t))/\E.cell? (Ad xb 2)=some (.string aw)) 17 (by kernel_rfl) ?_;rw[<-c7];clear c7;refine Aa.tm 0 c ?_;refine Aa.tm 1 c ?_;refine Aa.tm 2 c ?_;refine Aa.tm 3 c ?_;refine Aa.tm 4 c ?_;refine Aa.tm 5 c ?_;refine Aa.tm 6 c ?_;refine Aa.tm 7 c ?_;refine Aa.tm 8 c ?_;refine Aa.tm 9 c ?_;refine Aa.tm 10 c ?_;refine Aa.tm 11 c ?_
    try simp only[Act.put,tryL]
    refine Aa.on 12 λK I=>?_;go_simp;refine(HP.o wd).mono ?_;rintro rr w6⟨rfl,b6⟩;have X:=qh<|c8.o.trans (Fr.of_below b6);have G:=S.o w6 X.o;clear b6 c HP;refine I.out _ _ (.inr G) ?_;clear I K
    try simp only[Act.put,tryL]
    refine Aa.tm 13 G ?_;refine Aa.tm 14 G ?_;refine Aa.tm 15 G ?_
    try simp only[Act.put,tryL]
    refine Aa.on 16 λK I=>?_;go_simp;refine I.out _ _ (.inr G) ?_;clear I K
    try simp only[Act.put,tryL]
    refine Aa.on 17 λK I=>?_;go_simp;refine I.out _ _ (.inl rfl) (Aa.dn ?_);clear I K G;have L:=o.o.new X.o;by_cases a7:z.2=0
    ·have f4:(z.2:Int)=0:=by omega
     have R:=qh<|a1.o a7;obtain⟨we,a6⟩:=exq<|w6.drew;have a4:Fr (λ_=>False) w6 we:=by rw[a6];exact Fr.of_below<|(Below.refl w6.heap.size w6).drew
     have m:=S.o we (X.o.trans a4);have a5:=L.new a4;have f0:=a5.rl.frozen t;have d9:=qh a5;clear a5 L;clear o a1 a4
     go_wp2_with fail
     refine Au (λE:World=>E.cell? (Ad mb 0)=some (.int .i64 D.kind)/\E.cell? (Ad g q)=some (.slice (some (Ad lb 0)) D.n D.n)/\E.cell? (Ad xb 3)=some (.int .i64 (t:Int))/\E.cell? (Ad lb t)=some (.string (l t))/\E.cell? (Ad xb 2)=some (.string aw)) 8 (by kernel_rfl) ?_;rw[<-a6];clear a6;refine Aa.tm 0 m ?_;refine Aa.tm 1 m ?_;refine Aa.tm 2 m ?_;refine Aa.tm 3 m ?_;refine Aa.tm 4 m ?_;refine Aa.tm 5 m ?_;refine Aa.tm 6 m ?_;refine Aa.tm 7 m ?_
     try simp only[Act.put,tryL]
     refine Aa.on 8 λK I=>?_;obtain⟨f7,f8,f9,g0,g1⟩:=m;go_simp;refine I.out _ _ (.inl rfl) (Aa.dn ?_);clear I K f7 f8 f9 g0 g1 f0;go_wp2;go_roundw
     case rel=>exact⟨d+1,true,by omega,rfl,by go_num,by rw[g5.o];exact d9.o.put t z.1,λe=>(by cases e),R.o⟩
     simp[intOf];omega
    have f4:¬((z.2:Int)=0):=by omega
    have l1:((z.2:Int)==0)=false:=by simp;omega
    have l2:decide ((z.2:Int)=0)=false:=by simp;omega
    have d8:=qh L;clear L;have e1:=qh a7;clear a7;go_wp2;go_ret2;exact⟨d8.o.be,_,none,z.2,rfl,rfl,.inr (.inr ⟨e1.o,rfl⟩)⟩
   have T:=Z.o;rw[ifn u]at T;have a9:so8 D sel q (d+1):=λF J H=>a2.o F J (λ_ h=>absurd h u) H;have a8:b2=false->(∀s d,s<q->d<D.na s->sel (D.ain s d) (D.aout s d)=false)/\∀F,F<d+1->sel (D.ain q F) (D.aout q F)=false:=λe=>⟨(b3.o e).1,λF h=>by
    by_cases e2:F=d
    ·subst e2;rw[<-g2.o,<-g3.o];simpa using u
    exact(b3.o e).2 F (by omega)⟩
   have a3:(¬ai=0)\/(ai=0/\¬ao=0/\lo=false):=by
    rw[U.o]at u;unfold sel8 at u;by_cases e:ai=0
    ·refine .inr ⟨e,?_⟩;simp only[e,decide_true,Bool.true_and,Bool.or_eq_true,decide_eq_true_eq,not_or]at u;exact⟨u.1,by simpa using u.2⟩
    exact .inl e
   rw[<-T]at o;have a1:=qh a9;clear a9;replace a8:=qh a8;clear T u Z a2 g3 g2
   rcases a3 with J|⟨J,H,h3⟩
   ·have l9:(ai==0)=false:=by simp[J]
    have m4:decide (ai=0)=false:=by simp[J]
    go_wp2_with fail
    rw[<-N];go_roundw
    case rel=>exact⟨d+1,b2,by omega,rfl,by go_num,o.o,a8.o,a1.o⟩
    simp[intOf];omega
   have j3:(ao==0)=false:=by simp[H]
   have j4:decide (ao=0)=false:=by simp[H]
   subst J;subst h3
   go_wp2_with fail
   rw[<-N];go_roundw
   case rel=>exact⟨d+1,b2,by omega,rfl,by go_num,o.o,a8.o,a1.o⟩
   simp[intOf];omega
  have j6:¬((d:Int)<(D.na q:Int)):=by omega
  have h7:d=D.na q:=by omega
  have hi:=o.o;have ho:=d6.o;have B:=b3.o;rw[h7]at hi ho B;have Q:=qh hi.done;clear hi;have R:=qh (show ∀s,s<q+1->so8 D sel s (D.na s) from λs h=>by
   by_cases e:s=q
   ·rw[e];exact ho
   exact g7.o s (by omega))
  have e0:=qh (show b2=false->∀s d,s<q+1->d<D.na s->sel (D.ain s d) (D.aout s d)=false from λe s d h H=>by
   by_cases e2:s=q
   ·subst e2;exact(B e).2 d H
   exact(B e).1 s d (by omega) H)
  clear ho B h7;go_wp2;go_roundw
  case rel=>exact⟨q+1,b2,_,by omega,rfl,by go_num,Q.o,e0.o,R.o⟩
  simp[intOf];omega
 have j6:¬((q:Int)<(D.n:Int)):=by omega
 have i7:q=D.n:=by omega
 have hi:=o.o;have ho:=g7.o;have B:=g6.o;rw[i7]at hi ho B;have Q:=qh hi;clear hi;have R:=qh ho;clear ho;have e0:=qh B;clear B;clear i7;cases bb
 ·go_wp2;go_ret2;exact⟨Q.o.be,_,none,0,rfl,rfl,.inl ⟨λq d J H=>e0.o (by simp) q d J H,rfl,rfl⟩⟩
 by_cases e3:D.n<=60
 ·have g9:¬((60:Int)<(D.n:Int)):=by omega
  have l4:decide ((60:Int)<(D.n:Int))=false:=by simp;omega
  obtain⟨k,hk⟩:=hV.o.kk;have j0:=YU hV.o hk R.o;have d7:Sq k.1 D.n (λ_=>D.n) (sm8 D sel):=by rw[hk];exact j0
  have j1:=Yx (k:=k) wr e3 (Q.o.mt e3) (λi j=>by have:=Iz (D:=D) (sel:=sel) (q:=i) (D.na i) j;unfold smS at this;unfold sm8 maxLen;omega) d7;have b9:Calls prog 103 #[.int .i64 D.kind,.slice (some (Ad g 0)) D.n D.n] wr (RStarE D.n (λi j=>wval k (sm8 D sel i j)) wr):=by rw[<-hk];exact j1
  replace b9:=qh b9;clear j1 j0 d7;replace hk:=qh hk;have m0:=cellOf Q.o.bx 0 rfl
  go_wp2_with fail
  refine b9.o.mono ?_;rintro r w7⟨h6,hr⟩;have g4:=qh<|Q.o.be.trans (h6.mono Q.o.be.size);clear h6
  rcases hr with rfl|⟨v,Y,rfl,_,d2,d3⟩
  ·go_wp2;go_ret2;exact⟨g4.o,_,none,2,rfl,rfl,.inr (.inr ⟨by omega,rfl⟩)⟩
  obtain⟨av,cv,k9⟩:=d2.shape;subst k9;replace d2:=qh d2;replace d3:=qh d3;go_wp2;go_ret2;refine⟨g4.o,_,some Y,0,rfl,⟨d2.o,λi j hi hj=>by have J:=(d3.o i j hi hj).1;unfold smS;omega⟩,.inr (.inl ⟨e3,rfl,Y,rfl,λk' j7 i j hi hj=>?_⟩)⟩;obtain rfl:k'=k:=Subtype.ext<|j7.trans hk.o.symm;have J:=(d3.o i j hi hj).2 rfl;have H:CSR.starM (λi j=>wval k' (sm8 D sel i j)) D.n i j=CSR.starM (sils (rmOf k' D) sel) D.n i j:=CSR.starM_congr (λi j hi hj=>(Ql hV.o hk.o R.o hi hj).val) i j hi hj;rw[<-H];exact J
 have g9:(60:Int)<(D.n:Int):=by omega
 go_wp2;go_ret2;exact⟨Q.o.be,_,none,2,rfl,rfl,.inr (.inr ⟨by omega,rfl⟩)⟩
end
end Go.Proofs.YteappjogmnogcaaGreatDoor
