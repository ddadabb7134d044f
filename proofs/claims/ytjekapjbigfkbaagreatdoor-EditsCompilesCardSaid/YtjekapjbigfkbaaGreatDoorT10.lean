/- Parts of a proof: EdG EdLaw TrmL EdP EdI. -/
import Derived.Test.YtjekapjbigfkbaaGreatDoorT09
import Derived.Test.YtjekapjbigfkbaaGreatDoorT08
import Derived.RangeFuncNested
import Derived.RangeFuncBound
import Derived.RangeFuncCalls
import Derived.RangeFuncLeaves
import Derived.Shelf.Abstract
import Derived.Shelf.RegionOpen
import Derived.WalkKit
import Derived.OwnWalkIn
import Derived.TacticsInMore
import Derived.LoopNIn
import Derived.LoopIn
namespace Go.Proofs.YtjekapjbigfkbaaGreatDoor
set_option maxRecDepth 100000
set_option linter.unusedSimpArgs false
set_option linter.unusedVariables false
set_option linter.unusedSectionVars false
set_option maxHeartbeats 16000000
open Go Tryz
section
open Go.RowKit Go.Deep
structure Cu (w:World) (B g cap n1 n2 n3:Nat) (r:Nat->Nat) (s:Nat->Nat->Nat) (X:Nat->Nat->Nat->ByteArray):Prop where
 top:w.ownsRow B 66 1 (.slice (some ⟨g,0,none⟩) n1 cap) n1 (gvs n1 fun k=>.slice (some ⟨r k,0,none⟩) n2 n2)
 mid:∀ k,k<n1->w.rowIs (r k) 67 n2 (fun i=>.slice (some ⟨s k i,0,none⟩) n3 n3)
 row:∀ k i,k<n1->i<n2->w.rowIs (s k i) 9 n3 (fun j=>.string (X k i j))/\B<=s k i
 inj:∀ k i k' i',k<n1->i<n2->k' < n1->i' < n2->s k i=s k' i'->k=k'/\i=i'
 sm:∀ k i j,smS (X k i j)
def updX (X:Nat->Nat->Nat->ByteArray) (k i j:Nat) (v:ByteArray):Nat->Nat->Nat->ByteArray:=fun k' i' j'=>if k'=k/\i'=i/\j'=j then v else X k' i' j'
theorem x2q {w:World} {B:Nat} {e:TypeId} {s n cap g:Nat} {xs:List Value} (h:w.ownsRow B e s (.slice (some ⟨g,0,none⟩) n cap) n xs):∃ cs fr,w.heap[g]?=some (.cells cs e fr):=by
 rcases h.2 with ⟨c,_⟩|⟨k,j,d,c,_,i,_⟩
 ·cases c
 cases c;exact⟨d,_,i⟩
namespace Cu
variable {w w':World} {B g cap n1 n2 n3:Nat} {r:Nat->Nat} {s:Nat->Nat->Nat} {X:Nat->Nat->Nat->ByteArray}
theorem c1 (h:Cu w B g cap n1 n2 n3 r s X) {k:Nat} (c:k<n1):w.cell? ⟨g,k,none⟩=some (.slice (some ⟨r k,0,none⟩) n2 n2):=z9k h.top (x3t _ _ _ c)
theorem c2 (h:Cu w B g cap n1 n2 n3 r s X) {k i:Nat} (c:k<n1) (hi:i<n2):w.cell? ⟨r k,i,none⟩=some (.slice (some ⟨s k i,0,none⟩) n3 n3):=(h.mid k c).cell hi
theorem c3 (h:Cu w B g cap n1 n2 n3 r s X) {k i j:Nat} (c:k<n1) (hi:i<n2) (d:j<n3):w.cell? ⟨s k i,j,none⟩=some (.string (X k i j)):=(h.row k i c hi).1.cell d
theorem kept {C:Nat->Prop} (h:Cu w B g cap n1 n2 n3 r s X) (j:Fr C w w') (D:¬ C g) (G:∀ k,k<n1->¬ C (r k)) (z:∀ k i,k<n1->i<n2->¬ C (s k i)):Cu w' B g cap n1 n2 n3 r s X:=by
 refine⟨?_,fun k c=>j.row (h.mid k c) (G k c),fun k i c hi=>⟨j.row (h.row k i c hi).1 (z k i c hi),(h.row k i c hi).2⟩,h.inj,h.sm⟩;have o:=(World.ownsRow.lt h.top g rfl).2;obtain⟨E,v⟩:=h.top;refine⟨E,?_⟩
 rcases v with ⟨p,_⟩|⟨H,u,d,p,A,l,F⟩
 ·cases p
 cases p;exact .inr ⟨g,cap,d,rfl,A,(j.block g o D).trans l,F⟩
theorem new (h:Cu w B g cap n1 n2 n3 r s X) (c:Fr (fun _=>False) w w'):Cu w' B g cap n1 n2 n3 r s X:=h.kept c (fun e=>e) (fun _ _ e=>e) (fun _ _ _ _ e=>e)
theorem set (h:Cu w B g cap n1 n2 n3 r s X) {k i j:Nat} {v:ByteArray} (F:k<n1) (hi:i<n2) (G:smS v):Cu (w.setCell ⟨s k i,j,none⟩ (.string v)) B g cap n1 n2 n3 r s (updX X k i j v):=by
 have C:Fr (fun q=>q=s k i) w (w.setCell ⟨s k i,j,none⟩ (.string v)):=(Fr.refl (fun q=>q=s k i) w).set (p:=⟨s k i,j,none⟩) (.inl rfl) _;have d:=(h.row k i F hi).1;refine⟨?_,fun l c=>C.row (h.mid l c) (fun e=>z7u d (h.mid l c) (by decide) e.symm),fun l u c o=>⟨?_,(h.row l u c o).2⟩,h.inj,fun l u z=>?_⟩
 ·obtain⟨H,fr,D⟩:=x2q h.top;have E:g≠s k i:=fun e=>z0e d D (by decide) e.symm;exact z2g h.top (C.mono (C':=fun q=>some (s k i)=some q) (fun q _ e=>by rw[e])).gb (fun b hb e=>by
   have e2:g=b:=by simpa [Value.ownBlock] using hb
   subst e2;exact E (Option.some.inj e).symm)
 ·by_cases e:l=k/\u=i
  ·obtain⟨rfl,rfl⟩:=e;refine(d.set j _).congr (fun z _=>?_);unfold updX;by_cases e:z=j
   ·rw[if_pos e,if_pos ⟨rfl,rfl,e⟩]
   rw[if_neg e,if_neg (fun h=>e h.2.2)]
  refine(C.row (h.row l u c o).1 (fun e2=>e (h.inj l u k i c o F hi e2))).congr (fun z _=>?_);unfold updX;rw[if_neg (fun h=>e ⟨h.1,h.2.1⟩)]
 unfold updX;split
 ·exact G
 exact h.sm l u z
end Cu
structure TbM (w:World) (tb g cap n1 n2 n3:Nat) (ev xv yv:Value) (mo:Int) (e:Nat):Prop where
 blk:w.heap[tb]?=some (.cells #[ev,.int .i64 mo,xv,yv,.slice (some ⟨g,0,none⟩) n1 cap,.int .i64 (e:Int)] 65 (0,0))
theorem TbM.cells {w:World} {c g cap n1 n2 k:Nat} {i d j:Value} {mo:Int} {e:Nat} (h:TbM w c g cap n1 n2 k i d j mo e):w.cell? ⟨c,0,none⟩=some i/\w.cell? ⟨c,1,none⟩=some (.int .i64 mo)/\w.cell? ⟨c,2,none⟩=some d/\w.cell? ⟨c,3,none⟩=some j/\w.cell? ⟨c,4,none⟩=some (.slice (some ⟨g,0,none⟩) n1 cap)/\w.cell? ⟨c,5,none⟩=some (.int .i64 (e:Int)):=by
 have hb:=h.blk;exact⟨by simp[World.cell?,hb],by simp[World.cell?,hb],by simp[World.cell?,hb],by simp[World.cell?,hb],by simp[World.cell?,hb],by simp[World.cell?,hb]⟩
theorem TbM.kept {w i:World} {C:Nat->Prop} {c g cap n1 n2 k:Nat} {j d l:Value} {mo:Int} {e:Nat} (h:TbM w c g cap n1 n2 k j d l mo e) (p:Fr C w i) (o:¬ C c):TbM i c g cap n1 n2 k j d l mo e:=⟨(p.block c (lt_of_block h.blk) o).trans h.blk⟩
def plV (k i j:Nat):Value:=.agg #[.int .i64 (k:Int),.int .i64 (i:Int),.int .i64 (j:Int)]
theorem x4e {B H g cap n1 n2 E k i j e:Nat} {r:Nat->Nat} {s:Nat->Nat->Nat} {X:Nat->Nat->Nat->ByteArray} {ev Y yv:Value} {mo:Int} (w:World) (h:Cu w B g cap n1 n2 E r s X) (Q:TbM w H g cap n1 n2 E ev Y yv mo e) (F:k<n1) (hi:i<n2) (hj:j<E) :
  Calls prog 94 #[.pointer (some ⟨H,0,none⟩),plV k i j] w (fun r w'=>r=.returned (.string (X k i j))/\Below w.heap.size w w'):=by
 have R:(k:Int)<(n1:Int):=by omega
 have S:(i:Int)<(n2:Int):=by omega
 have W:(j:Int)<(E:Int):=by omega
 have O:(0:Int)<=(k:Int):=by omega
 have P:(0:Int)<=(i:Int):=by omega
 have J:(0:Int)<=(j:Int):=by omega
 obtain⟨u,c⟩:=exq (w.alloc (.cells #[.int .i64 (k:Int),.int .i64 (i:Int),.int .i64 (j:Int)] 70));obtain⟨A,d⟩:=exq (w.heap.size);have l:Fr (fun _=>False) w u:=by rw[c];exact Fr.alloc _ _
 have D:=h.new l;have t1:=Q.kept l (fun e=>e);obtain⟨_,_,_,_,c4,_⟩:=t1.cells;have p0:u.cell? ⟨A,0,none⟩=some (.int .i64 (k:Int)):=by rw[c,d];exact z3i w _ _ 0 _ rfl
 have p1:u.cell? ⟨A,1,none⟩=some (.int .i64 (i:Int)):=by rw[c,d];exact z3i w _ _ 1 _ rfl
 have p2:u.cell? ⟨A,2,none⟩=some (.int .i64 (j:Int)):=by rw[c,d];exact z3i w _ _ 2 _ rfl
 have T:=D.c1 F;have K:=D.c2 F hi;have L:=D.c3 F hi hj;have z:=l.below (Nat.le_refl w.heap.size) (fun _ e=>e.elim);obtain⟨I,v⟩:=exq (r k);obtain⟨C,o⟩:=exq (s k i);obtain⟨N,p⟩:=exq (X k i j);rw[<- v] at T K;rw[<- o] at K L;rw[<- p] at L;rw[<- p];have G:=qh z;clear z;clear v o p D t1 h Q l;unfold plV
 go_enter func94,ntmps94
 go_wp2_with fail
 rw[<- c,<- d];have Z:=qh c;clear c;have U:=qh d;clear d
 go_quiet (fail)
 go_wp2_with fail
 go_ret;exact⟨rfl,below_drewN G.out _⟩
def reaC (X:Nat->Nat->Nat->ByteArray) (e:Nat) (p q:Pl) (wt:ByteArray):(Nat->Nat->Nat->ByteArray) × Nat :=
 if (z2m (X p.1 p.2.1 p.2.2) wt).2≠0 then (X,(z2m (X p.1 p.2.1 p.2.2) wt).2)
 else if X q.1 q.2.1 q.2.2=⟨#[]⟩\/z3q (z2m (X p.1 p.2.1 p.2.2) wt).1 (X q.1 q.2.1 q.2.2)<0 then (updX X q.1 q.2.1 q.2.2 (z2m (X p.1 p.2.1 p.2.2) wt).1,e)
 else (X,e)
theorem x6z (a b:ByteArray):smS (z2m a b).1:=by
 unfold z2m;split
 ·exact Nat.le_trans (x1x _) (by omega)
 show (str []).size<=_;decide
def TbB (tb n1 n2:Nat) (s:Nat->Nat->Nat) (q:Nat):Prop:=q=tb\/∃ k i,k<n1/\i<n2/\q=s k i
def ReaE (B tb g cap n1 n2 n3:Nat) (r:Nat->Nat) (s:Nat->Nat->Nat) (ev xv yv:Value) (mo:Int) (z:(Nat->Nat->Nat->ByteArray) × Nat) (w:World) (rr:Ending) (w':World):Prop :=
 rr=.returned (.tuple #[])/\Cu w' B g cap n1 n2 n3 r s z.1/\TbM w' tb g cap n1 n2 n3 ev xv yv mo z.2/\Fr (TbB tb n1 n2 s) w w'
theorem Cu.tbne {w:World} {B g cap n1 n2 u:Nat} {r:Nat->Nat} {s:Nat->Nat->Nat} {X:Nat->Nat->Nat->ByteArray} (h:Cu w B g cap n1 n2 u r s X) {d:Nat} {cs:Array Value} {fr:Nat × Nat} (l:w.heap[d]?=some (.cells cs 65 fr)) :
  g≠d/\(∀ k,k<n1->r k≠d)/\∀ k i,k<n1->i<n2->s k i≠d:=by
 refine⟨fun e=>?_,fun k j=>z0e (h.mid k j) l (by decide),fun k i j hi=>z0e (h.row k i j hi).1 l (by decide)⟩;obtain⟨p,o,c⟩:=x2q h.top;subst e;rw[l] at c;simp at c
theorem z8y {B Z g cap n1 n2 Q e:Nat} {p q:Pl} {r:Nat->Nat} {s:Nat->Nat->Nat} {X:Nat->Nat->Nat->ByteArray} {ev xv yv:Value} {mo:Int} {wt:ByteArray} (w:World) (h:Cu w B g cap n1 n2 Q r s X) (ht:TbM w Z g cap n1 n2 Q ev xv yv mo e)
  (hp:p.1<n1/\p.2.1<n2/\p.2.2<Q) (hq:q.1<n1/\q.2.1<n2/\q.2.2<Q) (f1:smS wt) (c6:Tab w) :
  Calls prog 95 #[.pointer (some ⟨Z,0,none⟩),plV p.1 p.2.1 p.2.2,plV q.1 q.2.1 q.2.2,.string wt] w (ReaE B Z g cap n1 n2 Q r s ev xv yv mo (reaC X e p q wt) w):=by
 obtain⟨k,i,j⟩:=p;obtain⟨d,l,o⟩:=q;obtain⟨hk,hi,hj⟩:k<n1/\i<n2/\j<Q:=hp;obtain⟨D,G,d7⟩:d<n1/\l<n2/\o<Q:=hq;have g8:(d:Int)<(n1:Int):=by omega
 have g9:(l:Int)<(n2:Int):=by omega
 have h3:(o:Int)<(Q:Int):=by omega
 have g5:(0:Int)<=(d:Int):=by omega
 have g7:(0:Int)<=(l:Int):=by omega
 have g6:(0:Int)<=(o:Int):=by omega
 obtain⟨w1,b4⟩:=exq (w.alloc (.cells #[.int .i64 (k:Int),.int .i64 (i:Int),.int .i64 (j:Int)] 70));obtain⟨w2,b8⟩:=exq (w1.alloc (.cells #[.int .i64 (d:Int),.int .i64 (l:Int),.int .i64 (o:Int)] 70));have e1:w1.heap.size=w.heap.size+1:=by rw[b4];simp
 obtain⟨pb,e5⟩:=exq (w.heap.size);obtain⟨H,c9⟩:=exq (w.heap.size+1);have e0:Fr (fun _=>False) w w1:=by rw[b4];exact Fr.alloc _ _
 have e7:Fr (fun _=>False) w1 w2:=by rw[b8];exact Fr.alloc _ _
 have e8:w2.heap[H]?=some (.cells #[.int .i64 (d:Int),.int .i64 (l:Int),.int .i64 (o:Int)] 70 (0,0)):=by rw[b8,c9,<- e1];exact heap_alloc_new w1 _
 have hf:=e0.trans e7;have h2:=h.new hf;have t2:=ht.kept hf (fun e=>e);have c7:=x4e w2 h2 t2 hk hi hj;unfold plV at c7;have e6:=qh c7;clear c7;have HF:=qh hf;clear hf e0 e7;have HC:=qh h2;clear h2 h;have HT:=qh t2;clear t2 ht;have HQ:=qh e8;clear e8;have f0:=qh c6;clear c6;have g1:=qh f1;clear f1;unfold plV;show Calls prog _ #[_,.agg #[.int .i64 (k:Int),.int .i64 (i:Int),.int .i64 (j:Int)],.agg #[.int .i64 (d:Int),.int .i64 (l:Int),.int .i64 (o:Int)],_] w _
 go_enter func95,ntmps95
 go_wp2_with fail
 rw[<- b4,<- b8,<- c9,<- e5];clear b4 b8 e1 c9 e5;refine e6.out.mono ?_;rintro rr w3 ⟨rfl,e4⟩;have b3:Fr (fun _=>False) w2 w3:=Fr.of_below e4;have d5:=qh (HC.out.new b3);clear HC;have e9:=qh (HT.out.kept b3 (fun e=>e));clear HT;have d3:=qh ((b3.block H (lt_of_block HQ.out) (fun e=>e)).trans HQ.out);clear HQ;have d2:=qh (HF.out.trans b3);clear HF e4 e6;have a7:Tab w3:=f0.out.below (d2.out.below (Nat.le_refl w.heap.size) (fun _ e=>e.elim)) (Nat.le_refl _);have f5:=qh (y9j (X k i j) wt w3 (d5.out.sm k i j) g1.out a7);clear a7 b3
 go_wp2_with fail
 refine f5.out.mono ?_;rintro rr w4 ⟨rfl,f7⟩;have a5:Fr (fun _=>False) w3 w4:=Fr.of_below f7;have b0:=qh (d5.out.new a5);clear d5;have R:=qh (e9.out.kept a5 (fun e=>e));clear e9;have Y:=qh ((a5.block H (lt_of_block d3.out) (fun e=>e)).trans d3.out);clear d3;have d6:=qh (d2.out.trans a5);clear d2 f7 f5 a5;obtain⟨ad,b7⟩:=exq (z2m (X k i j) wt);rw[<- b7];have f2:reaC X e (k,i,j) (d,l,o) wt=if ad.2≠0 then (X,ad.2) else if X d l o=⟨#[]⟩\/z3q ad.1 (X d l o)<0 then (updX X d l o ad.1,e) else (X,e):=by rw[b7];rfl
 have b9:smS ad.1:=by rw[b7];exact x6z _ _
 have b2:=qh b9;clear b9 b7;have N:=qh f2;clear f2;by_cases he:ad.2=0
 rotate_left
 ·have h0:¬ ((ad.2:Int)=0):=by omega
  have h1:=R.out.cells.2.2.2.2.2;have fz:w4.frozen? ⟨Z,5,none⟩=false:=by simp[World.frozen?,R.out.blk]
  have N:=qh (N.out.trans (if_pos he))
  go_wp2_with fail
  go_end0
  have S:=b0.out.tbne R.out.blk;have O:Fr (fun q=>q=Z) w4 (w4.setCell ⟨Z,5,none⟩ (.int .i64 (ad.2:Int))):=(Fr.refl (fun q=>q=Z) w4).set (p:=⟨Z,5,none⟩) (.inl rfl) _;show ReaE _ _ _ _ _ _ _ _ _ _ _ _ _ _ _ _ _;rw[N.out];exact⟨rfl,b0.out.kept O S.1 S.2.1 S.2.2,⟨by simp[World.setCell,Array.getElem?_modify,R.out.blk]⟩,(d6.out.mono (fun _ _ e=>e.elim)).trans (O.mono (fun _ _ e=>.inl e))⟩
 have N:=qh (N.out.trans (if_neg (by simp[he])));have d0:=x4e w4 b0.out R.out D G d7;unfold plV at d0;have f4:=qh d0;clear d0;have q0:w4.cell? ⟨H,0,none⟩=some (.int .i64 (d:Int)):=by simp[World.cell?,Y.out]
 have q1:w4.cell? ⟨H,1,none⟩=some (.int .i64 (l:Int)):=by simp[World.cell?,Y.out]
 have q2:w4.cell? ⟨H,2,none⟩=some (.int .i64 (o:Int)):=by simp[World.cell?,Y.out]
 obtain⟨a1,a2⟩:=ad;have g2:a2=0:=he;subst g2
 go_wp2_with fail
 clear q0 q1 q2;refine f4.out.mono ?_;rintro rr I ⟨rfl,f9⟩;have a6:Fr (fun _=>False) w4 I:=Fr.of_below f9;have J:=qh (b0.out.new a6);clear b0;have a8:=qh (R.out.kept a6 (fun e=>e));clear R;have W:=qh ((a6.block H (lt_of_block Y.out) (fun e=>e)).trans Y.out);clear Y;have b6:=qh (d6.out.trans a6);clear d6 f9 f4 a6;obtain⟨old,U⟩:=exq (X d l o);rw[<- U] at N;rw[<- U];have a9:smS old:=by rw[U];exact J.out.sm _ _ _
 have g3:=qh a9;clear a9 U;cases hO:(old.toList==[])
 ·have ho:old≠⟨#[]⟩:=fun e=>by rw[e] at hO;simp at hO
  have a4:Tab I:=f0.out.below (b6.out.below (Nat.le_refl w.heap.size) (fun _ e=>e.elim)) (Nat.le_refl _);have c8:=qh (y0c a1 old I b2.out g3.out a4);clear a4;obtain⟨cq,d4⟩:=exq (z3q a1 old);have d8:reaC X e (k,i,j) (d,l,o) wt=if cq<0 then (updX X d l o a1,e) else (X,e):=N.out.trans (by rw[d4];simp[ho])
  rw[<- d4] at c8;have P:=qh d8;clear d8 d4 ho
  go_wp2_with fail
  refine c8.out.mono ?_;rintro rr L ⟨rfl,f8⟩;have a3:Fr (fun _=>False) I L:=Fr.of_below f8;have T:=qh (J.out.new a3);clear J;have b5:=qh (a8.out.kept a3 (fun e=>e));clear a8;have d1:=qh ((a3.block H (lt_of_block W.out) (fun e=>e)).trans W.out);clear W;have d9:=qh (b6.out.trans a3);clear b6 f8 c8 a3;by_cases e3:cq<0
  ·have P:=qh (P.out.trans (if_pos e3));have c1:=T.out.c1 D;have c2:=T.out.c2 D G;have c3:=T.out.c3 D G d7;have fz:=(T.out.row d l D G).1.frozen o;have c:L.drew.cell? ⟨Z,4,none⟩=some (.slice (some ⟨g,0,none⟩) n1 cap)/\L.drew.cell? ⟨H,0,none⟩=some (.int .i64 (d:Int))/\L.drew.cell? ⟨H,1,none⟩=some (.int .i64 (l:Int))/\L.drew.cell? ⟨H,2,none⟩=some (.int .i64 (o:Int))/\L.drew.cell? ⟨g,d,none⟩=some (.slice (some ⟨r d,0,none⟩) n2 n2)/\L.drew.cell? ⟨r d,l,none⟩=some (.slice (some ⟨s d l,0,none⟩) Q Q) :=
    ⟨b5.out.cells.2.2.2.2.1,show L.cell? _=_ by simp[World.cell?,d1.out],show L.cell? _=_ by simp[World.cell?,d1.out],show L.cell? _=_ by simp[World.cell?,d1.out],c1,c2⟩
   have g0:L.drew.cell? ⟨s d l,o,none⟩=some (.string (X d l o)):=c3;have g4:L.drew.frozen? ⟨s d l,o,none⟩=false:=fz;clear c1 c2 c3 fz
   go_wp2_with fail
   refine z0g (fun F=>F.cell? ⟨Z,4,none⟩=some (.slice (some ⟨g,0,none⟩) n1 cap)/\F.cell? ⟨H,0,none⟩=some (.int .i64 (d:Int))/\F.cell? ⟨H,1,none⟩=some (.int .i64 (l:Int))/\F.cell? ⟨H,2,none⟩=some (.int .i64 (o:Int))/\F.cell? ⟨g,d,none⟩=some (.slice (some ⟨r d,0,none⟩) n2 n2)/\F.cell? ⟨r d,l,none⟩=some (.slice (some ⟨s d l,0,none⟩) Q Q)) 16 (by kernel_rfl) ?_;refine z0b.tl 0 c (v:=?Xy) ?xn ?yz
   case xn=>rintro z ⟨s1,s2,E,u,C,A⟩;go_simp;try with_reducible rfl
   refine z0b.tl 1 c (v:=?Xj) ?yg ?zd
   case yg=>rintro z ⟨s1,s2,E,u,C,A⟩;go_simp;try with_reducible rfl
   refine z0b.tl 2 c (v:=?Xi) ?yh ?zs
   case yh=>rintro z ⟨s1,s2,E,u,C,A⟩;go_simp;try with_reducible rfl
   refine z0b.tl 3 c (v:=?Xh) ?yb ?zq
   case yb=>rintro z ⟨s1,s2,E,u,C,A⟩;go_simp;try with_reducible rfl
   refine z0b.tl 4 c (v:=?Xk) ?xp ?zr
   case xp=>rintro z ⟨s1,s2,E,u,C,A⟩;go_simp;try with_reducible rfl
   refine z0b.tl 5 c (v:=?Xg) ?ym ?yx
   case ym=>rintro z ⟨s1,s2,E,u,C,A⟩;go_simp;try with_reducible rfl
   refine z0b.tl 6 c (v:=?Xw) ?xr ?ze
   case xr=>rintro z ⟨s1,s2,E,u,C,A⟩;go_simp;try with_reducible rfl
   refine z0b.tl 7 c (v:=?Xv) ?yl ?zj
   case yl=>rintro z ⟨s1,s2,E,u,C,A⟩;go_simp;try with_reducible rfl
   refine z0b.tl 8 c (v:=?Xr) ?xo ?zb
   case xo=>rintro z ⟨s1,s2,E,u,C,A⟩;go_simp;try with_reducible rfl
   refine z0b.tl 9 c (v:=?Xl) ?xz ?zl
   case xz=>rintro z ⟨s1,s2,E,u,C,A⟩;go_simp;try with_reducible rfl
   refine z0b.tl 10 c (v:=?Xa) ?xf ?xx
   case xf=>rintro z ⟨s1,s2,E,u,C,A⟩;go_simp;try with_reducible rfl
   refine z0b.tl 11 c (v:=?zw) ?xa ?xq
   case xa=>rintro z ⟨s1,s2,E,u,C,A⟩;go_simp;try with_reducible rfl
   refine z0b.tl 12 c (v:=?zy) ?xh ?xw
   case xh=>rintro z ⟨s1,s2,E,u,C,A⟩;go_simp;try with_reducible rfl
   refine z0b.tl 13 c (v:=?zz) ?xd ?yd
   case xd=>rintro z ⟨s1,s2,E,u,C,A⟩;go_simp;try with_reducible rfl
   refine z0b.tl 14 c (v:=?zv) ?xc ?ys
   case xc=>rintro z ⟨s1,s2,E,u,C,A⟩;go_simp;try with_reducible rfl
   refine z0b.tl 15 c (v:=?zt) ?xb ?yu
   case xb=>rintro z ⟨s1,s2,E,u,C,A⟩;go_simp;try with_reducible rfl
   try simp only[Act.put,tryL]
   refine z0b.on 16 fun K hK=>?_;go_simp;refine hK.out _ _ (.inl rfl) (z0b.done (by kernel_rfl) ?_ _);clear hK K
   go_wp2_with fail
   go_end0
   show ReaE _ _ _ _ _ _ _ _ _ _ _ _ _ _ _ _ _;rw[P.out];have O:Fr (fun q=>q=s d l) L (L.setCell ⟨s d l,o,none⟩ (.string a1)):=(Fr.refl (fun q=>q=s d l) L).set (p:=⟨s d l,o,none⟩) (.inl rfl) _;have S:=(T.out.tbne b5.out.blk).2.2 d l D G;have b1:Fr (fun _=>False) (L.setCell ⟨s d l,o,none⟩ (.string a1)) (L.setCell ⟨s d l,o,none⟩ (.string a1)).drew:=(Fr.refl _ _).drew;refine⟨rfl,(T.out.set D G b2.out).new b1,(b5.out.kept O (fun e=>S e.symm)).kept b1 (fun e=>e),?_⟩;exact((d9.out.mono (fun _ _ e=>e.elim)).trans (O.mono (fun _ _ e=>.inr ⟨d,l,D,G,e⟩))).drew
  have P:=qh (P.out.trans (if_neg e3))
  go_wp2_with fail
  go_end0
  show ReaE _ _ _ _ _ _ _ _ _ _ _ _ _ _ _ _ _;rw[P.out];exact⟨rfl,T.out,b5.out,d9.out.mono (fun _ _ e=>e.elim)⟩
 have ho:old=⟨#[]⟩:=z4j hO;have P:=qh (N.out.trans (if_pos (.inl ho)));clear ho;have c1:=J.out.c1 D;have c2:=J.out.c2 D G;have c3:=J.out.c3 D G d7;have fz:=(J.out.row d l D G).1.frozen o;have c:I.drew.cell? ⟨Z,4,none⟩=some (.slice (some ⟨g,0,none⟩) n1 cap)/\I.drew.cell? ⟨H,0,none⟩=some (.int .i64 (d:Int))/\I.drew.cell? ⟨H,1,none⟩=some (.int .i64 (l:Int))/\I.drew.cell? ⟨H,2,none⟩=some (.int .i64 (o:Int))/\I.drew.cell? ⟨g,d,none⟩=some (.slice (some ⟨r d,0,none⟩) n2 n2)/\I.drew.cell? ⟨r d,l,none⟩=some (.slice (some ⟨s d l,0,none⟩) Q Q) :=
  ⟨a8.out.cells.2.2.2.2.1,show I.cell? _=_ by simp[World.cell?,W.out],show I.cell? _=_ by simp[World.cell?,W.out],show I.cell? _=_ by simp[World.cell?,W.out],c1,c2⟩
 have g0:I.drew.cell? ⟨s d l,o,none⟩=some (.string (X d l o)):=c3;have g4:I.drew.frozen? ⟨s d l,o,none⟩=false:=fz;clear c1 c2 c3 fz
 go_wp2_with fail
 refine z0g (fun F=>F.cell? ⟨Z,4,none⟩=some (.slice (some ⟨g,0,none⟩) n1 cap)/\F.cell? ⟨H,0,none⟩=some (.int .i64 (d:Int))/\F.cell? ⟨H,1,none⟩=some (.int .i64 (l:Int))/\F.cell? ⟨H,2,none⟩=some (.int .i64 (o:Int))/\F.cell? ⟨g,d,none⟩=some (.slice (some ⟨r d,0,none⟩) n2 n2)/\F.cell? ⟨r d,l,none⟩=some (.slice (some ⟨s d l,0,none⟩) Q Q)) 16 (by kernel_rfl) ?_;refine z0b.tl 0 c (v:=?Xo) ?yc ?zo
 case yc=>rintro z ⟨s1,s2,E,u,C,A⟩;go_simp;try with_reducible rfl
 refine z0b.tl 1 c (v:=?Xt) ?yo ?zi
 case yo=>rintro z ⟨s1,s2,E,u,C,A⟩;go_simp;try with_reducible rfl
 refine z0b.tl 2 c (v:=?Xp) ?yq ?yy
 case yq=>rintro z ⟨s1,s2,E,u,C,A⟩;go_simp;try with_reducible rfl
 refine z0b.tl 3 c (v:=?Xs) ?yp ?za
 case yp=>rintro z ⟨s1,s2,E,u,C,A⟩;go_simp;try with_reducible rfl
 refine z0b.tl 4 c (v:=?Xu) ?yf ?zf
 case yf=>rintro z ⟨s1,s2,E,u,C,A⟩;go_simp;try with_reducible rfl
 refine z0b.tl 5 c (v:=?Xn) ?xu ?zp
 case xu=>rintro z ⟨s1,s2,E,u,C,A⟩;go_simp;try with_reducible rfl
 refine z0b.tl 6 c (v:=?Xm) ?yr ?zc
 case yr=>rintro z ⟨s1,s2,E,u,C,A⟩;go_simp;try with_reducible rfl
 refine z0b.tl 7 c (v:=?Xq) ?yn ?zk
 case yn=>rintro z ⟨s1,s2,E,u,C,A⟩;go_simp;try with_reducible rfl
 refine z0b.tl 8 c (v:=?Xf) ?xt ?zn
 case xt=>rintro z ⟨s1,s2,E,u,C,A⟩;go_simp;try with_reducible rfl
 refine z0b.tl 9 c (v:=?Xx) ?yw ?zh
 case yw=>rintro z ⟨s1,s2,E,u,C,A⟩;go_simp;try with_reducible rfl
 refine z0b.tl 10 c (v:=?Xb) ?xi ?yk
 case xi=>rintro z ⟨s1,s2,E,u,C,A⟩;go_simp;try with_reducible rfl
 refine z0b.tl 11 c (v:=?Xd) ?xk ?xs
 case xk=>rintro z ⟨s1,s2,E,u,C,A⟩;go_simp;try with_reducible rfl
 refine z0b.tl 12 c (v:=?zu) ?xl ?yi
 case xl=>rintro z ⟨s1,s2,E,u,C,A⟩;go_simp;try with_reducible rfl
 refine z0b.tl 13 c (v:=?zx) ?xg ?ya
 case xg=>rintro z ⟨s1,s2,E,u,C,A⟩;go_simp;try with_reducible rfl
 refine z0b.tl 14 c (v:=?Xe) ?xm ?yt
 case xm=>rintro z ⟨s1,s2,E,u,C,A⟩;go_simp;try with_reducible rfl
 refine z0b.tl 15 c (v:=?Xc) ?xj ?yj
 case xj=>rintro z ⟨s1,s2,E,u,C,A⟩;go_simp;try with_reducible rfl
 try simp only[Act.put,tryL]
 refine z0b.on 16 fun K hK=>?_;go_simp;refine hK.out _ _ (.inl rfl) (z0b.done (by kernel_rfl) ?_ _);clear hK K
 go_wp2_with fail
 go_end0
 show ReaE _ _ _ _ _ _ _ _ _ _ _ _ _ _ _ _ _;rw[P.out];have O:Fr (fun q=>q=s d l) I (I.setCell ⟨s d l,o,none⟩ (.string a1)):=(Fr.refl (fun q=>q=s d l) I).set (p:=⟨s d l,o,none⟩) (.inl rfl) _;have S:=(J.out.tbne a8.out.blk).2.2 d l D G;have b1:Fr (fun _=>False) (I.setCell ⟨s d l,o,none⟩ (.string a1)) (I.setCell ⟨s d l,o,none⟩ (.string a1)).drew:=(Fr.refl _ _).drew;refine⟨rfl,(J.out.set D G b2.out).new b1,(a8.out.kept O (fun e=>S e.symm)).kept b1 (fun e=>e),?_⟩;exact((b6.out.mono (fun _ _ e=>e.elim)).trans (O.mono (fun _ _ e=>.inr ⟨d,l,D,G,e⟩))).drew
end
section
structure Sub (P P':EP):Prop where
 n:P.M.n<=P'.M.n
 e:∀ i,i<P.M.n->P'.M.e i=P.M.e i
 m:P.M.most<=P'.M.most
 a:P'.a=P.a
 b:P'.b=P.b
 x:∀ i,i<P.a->P'.x i=P.x i
 y:∀ i,i<P.b->P'.y i=P.y i
theorem Pth.none {P:EP} (k:P.M.most=0) {p:Pl} {c:Rat} (h:Pth P p c):c=0/\p.2.1=p.2.2/\p.2.1<=P.a/\p.2.2<=P.b/\∀ i,i<p.2.1->P.x i=P.y i:=by
 induction h with
 | start=>exact⟨rfl,rfl,Nat.zero_le _,Nat.zero_le _,fun i hi=>absurd hi (Nat.not_lt_zero _)⟩
 | step h1 h2 ih =>
  obtain⟨i1,d,o,l,j⟩:=ih;cases h2 with
  | copy a b c =>
   refine⟨by rw[i1];exact Rat.add_zero 0,by show _+1=_+1;simp at d;rw[d],by show _+1<=_;omega,by show _+1<=_;omega,fun i hi=>?_⟩;have g:i<_+1:=hi;simp at d j
   rcases Nat.lt_or_ge i _ with h|h
   ·exact j i h
   have e:=Nat.le_antisymm (Nat.lt_succ_iff.1 g) h;subst e;rw[c,d]
  | edit a b=>rw[k] at b;omega
structure Parts (P Q R:EP):Prop where
 n:P.M.n=R.M.n
 n2:Q.M.n=R.M.n
 e:∀ i,i<R.M.n->P.M.e i=R.M.e i
 e2:∀ i,i<R.M.n->Q.M.e i=R.M.e i
 m:P.M.most+Q.M.most=R.M.most
 m1:0<=P.M.most
 m2:0<=Q.M.most
 a:R.a=P.a+Q.a
 b:R.b=P.b+Q.b
 x:∀ i,i<P.a->R.x i=P.x i
 x2:∀ i,i<Q.a->R.x (P.a+i)=Q.x i
 y:∀ i,i<P.b->R.y i=P.y i
 y2:∀ i,i<Q.b->R.y (P.b+i)=Q.y i
theorem x0w {a s:Nat} {x c:Nat->Int} {i n:Nat} {u:Nat->Int} (h:bgs a x i n u) (g:∀ i,i<a->c (s+i)=x i):bgs (s+a) c (s+i) n u :=
 ⟨by have:=h.1;omega,fun k d=>by rw[Nat.add_assoc,g _ (by have:=h.1;omega)];exact h.2 k d⟩
theorem Pth.right {P Q R:EP} (H:Parts P Q R) {g:Nat} {c0:Rat} (s:Pth R (g,P.a,P.b) c0) (u:(g:Int)<=P.M.most) {p:Pl} {c:Rat} (h:Pth Q p c):Pth R (g+p.1,P.a+p.2.1,P.b+p.2.2) (c0+c):=by
 induction h with
 | start=>rw[Rat.add_zero];exact s
 | @step p' c' l' q' d' _ h2 ih =>
  rw[<- Rat.add_assoc];refine .step (l:=l') ih ?_;cases h2 with
  | @copy k i j a b c =>
   exact Sp.copy (P:=R) (k:=g+k) (i:=P.a+i) (j:=P.b+j) (by rw[H.a];omega) (by rw[H.b];omega) (by rw[H.x2 _ a,H.y2 _ b];exact c)
  | @edit k i j e a b c d =>
   have o:e<R.M.n:=by rw[<- H.n2];exact a
   have r:=@Sp.edit R (g+k) (P.a+i) (P.b+j) e o (by have:=H.m;omega) (by rw[H.a,<- H.e2 _ o];exact x0w c H.x2) (by rw[H.b,<- H.e2 _ o];exact x0w d H.y2);rw[<- H.e2 _ o,Nat.add_assoc,Nat.add_assoc,Nat.add_assoc] at r;exact r
def Apl (M:EM) (a:Nat) (x:Nat->Int) (k i ny:Nat) (yy:Nat->Int) (c:Rat):Prop :=
 i<=a/\∀ b y,ny<=b->(∀ j,j<ny->y j=yy j)->Pth ⟨M,a,x,b,y⟩ (k,i,ny) c
theorem Apl.start (M:EM) (a:Nat) (x:Nat->Int) (c:Nat->Int):Apl M a x 0 0 0 c 0:=⟨Nat.zero_le _,fun _ _ _ _=>.start⟩
theorem Apl.congr {M:EM} {a:Nat} {x:Nat->Int} {k i ny:Nat} {l d:Nat->Int} {c:Rat} (h:Apl M a x k i ny l c) (o:∀ j,j<ny->d j=l j):Apl M a x k i ny d c :=
 ⟨h.1,fun b y hb p=>h.2 b y hb fun j g=>by rw[p j g,o j g]⟩
theorem Apl.copy {M:EM} {a:Nat} {x:Nat->Int} {k i ny:Nat} {g:Nat->Int} {c:Rat} (h:Apl M a x k i ny g c) (hi:i<a):Apl M a x k (i+1) (ny+1) (fun j=>if j<ny then g j else x i) c:=by
 refine⟨hi,fun b y hb d=>?_⟩;have p:=h.2 b y (by omega) (fun j o=>(d j (by omega)).trans (if_pos o));have l:=Pth.step p (Sp.copy (P:=⟨M,a,x,b,y⟩) hi (by show ny<b;omega) (((d ny (by omega)).trans (if_neg (by omega))).symm));rw[Rat.add_zero] at l;exact l
theorem Apl.edit {M:EM} {a:Nat} {x:Nat->Int} {k i ny e:Nat} {o:Nat->Int} {c:Rat} (h:Apl M a x k i ny o c) (s:e<M.n) (p:(k:Int)<M.most) (hb:bgs a x i (M.e e).nf (M.e e).f) :
  Apl M a x (k+1) (i+(M.e e).nf) (ny+(M.e e).nt) (fun j=>if j<ny then o j else (M.e e).t (j-ny)) (c+qv (M.e e).w):=by
 refine⟨hb.1,fun b y d l=>?_⟩;have r:=h.2 b y (by omega) (fun j g=>(l j (by omega)).trans (if_pos g));exact .step r (Sp.edit (P:=⟨M,a,x,b,y⟩) s p hb ⟨d,fun j g=>(l _ (by have u:j<(M.e e).nt:=g;omega)).trans ((if_neg (by omega)).trans (by rw[Nat.add_sub_cancel_left]))⟩)
theorem Apl.end {M:EM} {a:Nat} {x:Nat->Int} {k:Nat} {c:Rat}:∀ {m i:Nat} {yy:Nat->Int},i+m=a->∀ {ny:Nat},Apl M a x k i ny yy c->Apl M a x k a (ny+m) (fun j=>if j<ny then yy j else x (i+(j-ny))) c
 | 0,i,yy,hi,ny,h=>by
  have e:i=a:=by omega
  subst e;exact h.congr fun j hj=>if_pos hj
 | m+1,i,yy,hi,ny,h=>by
  have h1:=Apl.end (m:=m) (i:=i+1) (by omega) (ny:=ny+1) (h.copy (by omega));rw[show ny+1+m=ny+(m+1) by omega] at h1;refine h1.congr fun j hj=>?_;by_cases h2:j<ny
  ·rw[if_pos h2,if_pos (by omega),if_pos h2]
  rw[if_neg h2];by_cases h3:j<ny+1
  ·rw[if_pos h3,if_neg h2,show i+(j-ny)=i by omega]
  rw[if_neg h3,show i+1+(j-(ny+1))=i+(j-ny) by omega]
def oV:Option Rat->V
 | none=>.inf
 | some q=>.fin q
theorem x5c (o:Option Rat):y0f o=vtxt (oV o):=by cases o<;>rfl
def fitO:Option Rat->Prop
 | none=>True
 | some q=>fitQ q
theorem x2s {o o':Option Rat} (h:fitO o) (c:fitO o'):z1a 1 (y0f o) (y0f o')=cmpV (oV o) (oV o'):=by
 unfold z1a;rw[x5c,x5c,y4i (k:=1) (v:=oV o) (by cases o<;>exact h) (by cases o<;>simp[oV,okV]),y4i (k:=1) (v:=oV o') (by cases o'<;>exact c) (by cases o'<;>simp[oV,okV])]
 rfl
theorem Pth.small {P:EP} (d:∀ i,i<P.M.n->szQ 5 (qv (P.M.e i).w)) {p:Pl} {c:Rat} (h:Pth P p c):szQ (6*p.1+1) c:=by
 induction h with
 | start=>exact⟨by decide,by decide⟩
 | step _ h2 ih =>
  cases h2 with
  | copy=>rw[Rat.add_zero];exact ih
  | edit a=>exact(ih.add (d _ a)).mono (by show _+5+1<=6*(_+1)+1;omega)
theorem x8d {P:EP} (r:0<=P.M.most) (u:P.M.most<=6) (o:∀ i,i<P.M.n->szQ 5 (qv (P.M.e i).w)):¬ TooL P:=by
 rintro⟨p,c,l,q,d,k,h,j⟩;have g:=Pth.step k h;have s:=(g.inR r).1;exact j (x6h.2 ((g.small o).mono (by omega)))
end
section
inductive Rea (R:Nat->Prop) (S:Nat->Nat->Prop):Nat->Prop
 | root {i:Nat}:R i->Rea R S i
 | step {i j:Nat}:Rea R S i->S i j->Rea R S j
structure Srch (n:Nat) (R:Nat->Prop) (S:Nat->Nat->Prop) (P:Nat->Nat->Prop) (Q:Nat->Prop) (f:Nat->Bool) (l:List Nat):Prop where
 sound:∀ i,f i=true->Rea R S i
 todo:∀ i,i ∈ l->i<n/\f i=true
 done:∀ i j,f i=true->i ∉ l->S i j->f j=true\/P i j
 roots:∀ i,R i->f i=true\/Q i
theorem Srch.start (n:Nat) (R:Nat->Prop) (S:Nat->Nat->Prop):Srch n R S (fun _ _=>False) R (fun _=>false) [] :=
 ⟨fun _ h=>by simp at h,fun _ h=>by simp at h,fun _ _ h=>by simp at h,fun _ h=>.inr h⟩
theorem Srch.old {n:Nat} {R:Nat->Prop} {S P d:Nat->Nat->Prop} {Q k:Nat->Prop} {f:Nat->Bool} {l:List Nat} {t:Nat} (h:Srch n R S P Q f l) (g:f t=true) (p:∀ i j,P i j->j=t\/d i j) (hQ:∀ i,Q i->i=t\/k i):Srch n R S d k f l:=by
 refine⟨h.sound,h.todo,fun i j c r o=>?_,fun i c=>?_⟩
 ·rcases h.done i j c r o with e|e
  ·exact .inl e
  rcases p i j e with rfl|e
  ·exact .inl g
  exact .inr e
 rcases h.roots i c with e|e
 ·exact .inl e
 rcases hQ i e with rfl|e
 ·exact .inl g
 exact .inr e
theorem Srch.end {n:Nat} {R:Nat->Prop} {S:Nat->Nat->Prop} {f:Nat->Bool} (h:Srch n R S (fun _ _=>False) (fun _=>False) f []) (i:Nat):f i=true↔Rea R S i:=by
 refine⟨h.sound i,fun hi=>?_⟩
 induction hi with
 | root h1=>exact(h.roots _ h1).resolve_right id
 | step _ h2 ih=>exact(h.done _ _ ih (by simp) h2).resolve_right id
def left (f:Nat->Bool):Nat->Nat
 | 0=>0
 | n+1=>left f n+if f n then 0 else 1
def nums (f:Nat->Bool):Nat->List Nat
 | 0=>[]
 | n+1=>nums f n++if f n then [n] else []
def Stp (D:MD) (i j:Nat):Prop:=i<D.n/\∃ k,k<D.na i/\(D.ato i k).toNat=j
def Fwd (D:MD):Nat->Prop:=Rea (fun i=>i=D.start.toNat) (Stp D)
def IsF (D:MD) (i:Nat):Prop:=i<D.n/\D.fin i≠⟨#[]⟩
def Bwd (D:MD):Nat->Prop:=Rea (IsF D) (fun i j=>Stp D j i)
theorem Fwd.lt {D:MD} (h:VM D) {i:Nat} (hi:Fwd D i):i<D.n:=by
 induction hi with
 | root h1=>have:=h.s0;have:=h.s1;omega
 | step _ h2 _ =>
  obtain⟨d,k,g,rfl⟩:=h2;have c:=h.arc _ _ d g;have:=c.t0;have:=c.t1;omega
theorem Bwd.lt {D:MD} {i:Nat} (hi:Bwd D i):i<D.n:=by
 cases hi with
 | root h1=>exact h1.1
 | step _ h2=>exact h2.1
end
section
abbrev XT:=Nat->Nat->Nat->ByteArray
abbrev ST:=XT × Nat
def canB (P:EP) (p:Pl) (e:Nat):Bool:=decide (p.2.1+(P.M.e e).nf<=P.a)&&(List.range (P.M.e e).nf).all (fun k=>P.x (p.2.1+k)==(P.M.e e).f k)&&(decide (p.2.2+(P.M.e e).nt<=P.b)&&(List.range (P.M.e e).nt).all (fun k=>P.y (p.2.2+k)==(P.M.e e).t k))
theorem z7t {P:EP} {p:Pl} {e:Nat}:canB P p e=true↔bgs P.a P.x p.2.1 (P.M.e e).nf (P.M.e e).f/\bgs P.b P.y p.2.2 (P.M.e e).nt (P.M.e e).t:=by
 unfold canB bgs;simp
def toP (P:EP) (p:Pl) (e:Nat):Pl:=(p.1+1,p.2.1+(P.M.e e).nf,p.2.2+(P.M.e e).nt)
def z2s (P:EP) (p:Pl):Nat->ST->ST
 | 0,s=>s
 | e+1,s=>if canB P p e=true then reaC (z2s P p e s).1 (z2s P p e s).2 p (toP P p e) (P.M.e e).w else z2s P p e s
def cpC (P:EP) (p:Pl) (s:ST):ST:=if p.2.1<P.a/\p.2.2<P.b/\P.x p.2.1=P.y p.2.2 then reaC s.1 s.2 p (p.1,p.2.1+1,p.2.2+1) ⟨#[48]⟩ else s
def stpC (P:EP) (p:Pl) (s:ST):ST :=
 if s.1 p.1 p.2.1 p.2.2=⟨#[]⟩ then s else if (p.1:Int)=P.M.most then cpC P p s else z2s P p P.M.n (cpC P p s)
def colP (P:EP) (k i:Nat):Nat->ST->ST
 | 0,s=>s
 | j+1,s=>stpC P (k,i,j) (colP P k i j s)
def rowP (P:EP) (k:Nat):Nat->ST->ST
 | 0,s=>s
 | i+1,s=>colP P k i (P.b+1) (rowP P k i s)
def tabP (P:EP):Nat->ST->ST
 | 0,s=>s
 | k+1,s=>rowP P k (P.a+1) (tabP P k s)
def X0:XT:=fun k i j=>if k=0/\i=0/\j=0 then ⟨#[48]⟩ else ⟨#[]⟩
def lstS (X:XT) (a b:Nat):Nat->ByteArray
 | 0=>infS
 | m+1=>if X m a b≠⟨#[]⟩/\(lstS X a b m=infS\/z3q (X m a b) (lstS X a b m)<0) then X m a b else lstS X a b m
def z6a (P:EP):ByteArray × Nat :=
 if (tabP P (P.M.most.toNat+1) (X0,0)).2≠0 then (⟨#[]⟩,(tabP P (P.M.most.toNat+1) (X0,0)).2)
 else (lstS (tabP P (P.M.most.toNat+1) (X0,0)).1 P.a P.b (P.M.most.toNat+1),0)
def RelX (X:XT) (T:TbE):Prop:=∀ k i j,(T (k,i,j)=none/\X k i j=⟨#[]⟩)\/∃ c,T (k,i,j)=some c/\X k i j=txt c/\fitQ c
theorem u3b:prs ⟨#[]⟩=none:=by decide +kernel
theorem y5j {c:Rat} (h:fitQ c):txt c≠⟨#[]⟩:=fun e=>by have:=z1e h;rw[e,u3b] at this;cases this
theorem RelX.at {X:XT} {T:TbE} (h:RelX X T) {p:Pl} {c:Rat} (g:T p=some c):X p.1 p.2.1 p.2.2=txt c/\fitQ c:=by
 rcases h p.1 p.2.1 p.2.2 with ⟨d,_⟩|⟨k,d,j,i⟩
 ·rw[show (p.1,p.2.1,p.2.2)=p from rfl,g] at d;cases d
 rw[show (p.1,p.2.1,p.2.2)=p from rfl,g] at d;cases d;exact⟨j,i⟩
theorem RelX.empty {X:XT} {T:TbE} (h:RelX X T) {p:Pl} (i:X p.1 p.2.1 p.2.2=⟨#[]⟩):T p=none:=by
 rcases h p.1 p.2.1 p.2.2 with ⟨c,_⟩|⟨j,c,d,g⟩
 ·exact c
 rw[i] at d;exact absurd d.symm (y5j g)
theorem RelX.some_of {X:XT} {T:TbE} (h:RelX X T) {p:Pl} (g:X p.1 p.2.1 p.2.2≠⟨#[]⟩):∃ c,T p=some c:=by
 rcases h p.1 p.2.1 p.2.2 with ⟨_,d⟩|⟨i,d,_⟩
 ·exact absurd d g
 exact⟨i,d⟩
theorem RelX.upd {X:XT} {T:TbE} (h:RelX X T) {q:Pl} {v:Rat} (l:fitQ v):RelX (updX X q.1 q.2.1 q.2.2 (txt v)) (fun r=>if r=q then some v else T r):=by
 intro k i j;unfold updX;by_cases e:(k,i,j)=q
 ·subst e;exact .inr ⟨v,by simp,by simp,l⟩
 have e2:¬ (k=q.1/\i=q.2.1/\j=q.2.2):=fun h=>e (by obtain⟨d,g,o⟩:=h;rw[d,g,o]);rw[if_neg e2]
 rcases h k i j with ⟨d,g⟩|⟨c,d,g⟩
 ·exact .inl ⟨by simp[e,d],g⟩
 exact .inr ⟨c,by simp[e,d],g⟩
theorem x3u {X:XT} {T:TbE} (h:RelX X T) {e:Nat} {p q:Pl} {c d:Rat} {wt:ByteArray} (B:T p=some c) (A:prs wt=some d) (s:fitQ (c+d)):∃ X',reaC X e p q wt=(X',e)/\RelX X' (relx T q (c+d)):=by
 obtain⟨F,C⟩:=h.at B;have D:z2m (X p.1 p.2.1 p.2.2) wt=(txt (c+d),0):=by unfold z2m;rw[F,z1e C,A];exact z9x s
 unfold reaC;rw[D,if_neg (by simp)];cases g:T q with
 | none =>
  have E:X q.1 q.2.1 q.2.2=⟨#[]⟩:=by
   rcases h q.1 q.2.1 q.2.2 with ⟨_,i⟩|⟨G,i,_⟩
   ·exact i
   rw[show (q.1,q.2.1,q.2.2)=q from rfl,g] at i;cases i
  rw[if_pos (.inl E)];refine⟨_,rfl,?_⟩;have j:relx T q (c+d)=fun r=>if r=q then some (c+d) else T r:=by funext r;unfold relx;rw[g]
  rw[j];exact h.upd s
 | some u =>
  obtain⟨i,z⟩:=h.at g;have v:z3q (txt (c+d)) (X q.1 q.2.1 q.2.2)=cmpQ (c+d) u:=by unfold z3q;rw[i,z1e s,z1e z]
  have l:X q.1 q.2.1 q.2.2≠⟨#[]⟩:=by rw[i];exact y5j z
  show ∃ X',(if X q.1 q.2.1 q.2.2=⟨#[]⟩\/z3q (txt (c+d)) (X q.1 q.2.1 q.2.2)<0 then (updX X q.1 q.2.1 q.2.2 (txt (c+d)),e) else (X,e))=(X',e)/\_
  rw[v]
  rcases z1c (c+d) u with ⟨o,k⟩|⟨o,k⟩|⟨o,k⟩
  ·rw[if_pos (.inr (by rw[k];decide))];refine⟨_,rfl,?_⟩;have j:relx T q (c+d)=fun r=>if r=q then some (c+d) else T r:=by funext r;unfold relx;rw[g];simp[o]
   rw[j];exact h.upd s
  ·rw[if_neg (fun h=>by rcases h with h|h;exact l h;rw[k] at h;exact absurd h (by decide))]
   refine⟨_,rfl,?_⟩;have j:relx T q (c+d)=T:=by funext r;unfold relx;rw[g];by_cases e:r=q<;>simp[e,g,o]
   rw[j];exact h
  rw[if_neg (fun h=>by rcases h with h|h;exact l h;rw[k] at h;exact absurd h (by decide))]
  refine⟨_,rfl,?_⟩;have j:relx T q (c+d)=T:=by funext r;unfold relx;rw[g];by_cases e:r=q<;>simp[e,g,Rat.not_lt.2 (Rat.le_of_lt o)]
  rw[j];exact h
theorem x6k {X:XT} {T:TbE} (h:RelX X T) {e:Nat} {p q:Pl} {c d:Rat} {wt:ByteArray} (l:T p=some c) (i:prs wt=some d) (o:¬ fitQ (c+d)):reaC X e p q wt=(X,2):=by
 obtain⟨j,k⟩:=h.at l;have g:z2m (X p.1 p.2.1 p.2.2) wt=(str [],2):=by unfold z2m;rw[j,z1e k,i];exact y1h o
 unfold reaC;rw[g,if_pos (by simp)]
def Iv (P:EP) (Done:Pl->Option Nat->Prop) (s:ST):Prop:=∃ T,RelX s.1 T/\(∀ q c,T q=some c->Pth P q c)/\(s.2=0->Dp P Done T)/\(s.2≠0->s.2=2/\TooL P)
theorem Iv.fits {P:EP} {i g:Pl->Option Nat->Prop} {s:ST} (h:Iv P i s) (k:∀ p l c q d,g p l->Pth P p c->Sp P p l q d->i p l):Iv P g s:=by
 obtain⟨T,u,j,r,o⟩:=h;exact⟨T,u,j,fun e=>(r e).fits fun p l c q d a b v=>k p l c q d a (j p c b) v,o⟩
theorem Iv.rea {P:EP} {j g:Pl->Option Nat->Prop} {s:ST} {p q:Pl} {l:Option Nat} {d:Rat} {wt:ByteArray} (h:Iv P j s) (I:s.1 p.1 p.2.1 p.2.2≠⟨#[]⟩) (v:Sp P p l q d) (C:prs wt=some d) (F:∀ l',¬ g q l')
  (D:∀ p' l',g p' l'->j p' l'\/(p'=p/\l'=l)):Iv P g (reaC s.1 s.2 p q wt):=by
 obtain⟨T,z,o,G,E⟩:=h;obtain⟨c,k⟩:=z.some_of I;by_cases A:fitQ (c+d)
 ·obtain⟨K,J,H⟩:=x3u z (e:=s.2) (q:=q) k C A;rw[J];refine⟨relx T q (c+d),H,fun r u i=>?_,fun e=>(G e).step k v F D,E⟩;by_cases e:r=q
  ·subst e;unfold relx at i;rw[if_pos rfl] at i;cases B:T r with
   | none=>rw[B] at i;simp at i;subst i;exact .step (o p c k) v
   | some u' =>
    rw[B] at i;by_cases e2:c+d<u'
    ·simp[e2] at i;subst i;exact .step (o p c k) v
    simp[e2] at i;subst i;exact o _ _ B
  rw[y9d e] at i;exact o r u i
 rw[x6k z (e:=s.2) (q:=q) k C A];exact⟨T,z,o,fun e=>(by cases e),fun _=>⟨rfl,p,c,l,q,d,o p c k,v,A⟩⟩
theorem x6v {X:XT} {e:Nat} {p q:Pl} {wt:ByteArray} (h:p≠q):(reaC X e p q wt).1 p.1 p.2.1 p.2.2=X p.1 p.2.1 p.2.2:=by
 unfold reaC
 split
 ·rfl
 split
 ·show updX X _ _ _ _ _ _ _=_;unfold updX;rw[if_neg (fun i=>h (by obtain⟨d,g,c⟩:=i;exact Prod.ext d (Prod.ext g c)))]
 rfl
theorem Iv.label {P:EP} {k i j:Nat} {L u:Option Nat->Prop} {s:ST} (h:Iv P (Dn k i j L) s) (A:∀ l q d,u l->Sp P (k,i,j) l q d->L l):Iv P (Dn k i j u) s :=
 h.fits fun p l c q d v _ B=>by
  rcases v with g|⟨g,o|⟨o,r|⟨r,z⟩⟩⟩
  ·exact .inl g
  ·exact .inr ⟨g,.inl o⟩
  ·exact .inr ⟨g,.inr ⟨o,.inl r⟩⟩
  have e:p=(k,i,j):=Prod.ext g (Prod.ext o r);subst e;exact .inr ⟨rfl,.inr ⟨rfl,.inr ⟨rfl,A l q d z B⟩⟩⟩
theorem Dn.add {k i j:Nat} {L:Option Nat->Prop} {l0:Option Nat} {p':Pl} {l':Option Nat} (h:Dn k i j (fun l=>L l\/l=l0) p' l'):Dn k i j L p' l'\/(p'=(k,i,j)/\l'=l0):=by
 rcases h with c|⟨c,d|⟨d,g|⟨g,o|o⟩⟩⟩
 ·exact .inl (.inl c)
 ·exact .inl (.inr ⟨c,.inl d⟩)
 ·exact .inl (.inr ⟨c,.inr ⟨d,.inl g⟩⟩)
 ·exact .inl (.inr ⟨c,.inr ⟨d,.inr ⟨g,o⟩⟩⟩)
 exact .inr ⟨Prod.ext c (Prod.ext d g),o⟩
theorem v9j:prs ⟨#[48]⟩=some 0:=by decide +kernel
theorem u4d (P:EP) (p:Pl) (e:Nat):p≠toP P p e:=fun h=>by have:=congrArg Prod.fst h;simp[toP] at this
theorem y0v {P:EP} {p:Pl} {s:ST}:∀ e,(z2s P p e s).1 p.1 p.2.1 p.2.2=s.1 p.1 p.2.1 p.2.2
 | 0=>rfl
 | e+1=>by
  unfold z2s;split
  ·rw[x6v (u4d P p e)];exact y0v e
  exact y0v e
theorem u0h {P:EP} {p:Pl} {s:ST}:(cpC P p s).1 p.1 p.2.1 p.2.2=s.1 p.1 p.2.1 p.2.2:=by
 unfold cpC;split
 ·exact x6v (fun h=>by have:=congrArg (fun q:Pl=>q.2.1) h;simp at this)
 rfl
theorem Iv.copy {P:EP} {k i j:Nat} {s:ST} (h:Iv P (Dn k i j fun _=>False) s) (B:s.1 k i j≠⟨#[]⟩):Iv P (Dn k i j fun l=>l=none) (cpC P (k,i,j) s):=by
 unfold cpC
 split
 ·rename_i o;have u:Sp P (k,i,j) none (k,i+1,j+1) 0:=.copy o.1 o.2.1 o.2.2;exact h.rea (p:=(k,i,j)) B u v9j (u.later _) (fun p' l' z=>by
   have g:=Dn.add (L:=fun _=>False) (l0:=none) (p':=p') (l':=l') (by
    rcases z with g|⟨g,r|⟨r,v|⟨v,A⟩⟩⟩
    ·exact .inl g
    ·exact .inr ⟨g,.inl r⟩
    ·exact .inr ⟨g,.inr ⟨r,.inl v⟩⟩
    exact .inr ⟨g,.inr ⟨r,.inr ⟨v,.inr A⟩⟩⟩)
   exact g)
 rename_i o;exact h.label fun l q d C u=>by
  subst C;cases u with
  | copy a b c=>exact absurd ⟨a,b,c⟩ o
theorem Iv.edits {P:EP} (hv:∀ i,i<P.M.n->EdOk (P.M.e i)) {k i j:Nat} (hk:(k:Int)<P.M.most) {s:ST} (h:Iv P (Dn k i j fun l=>l=none) s) (hx:s.1 k i j≠⟨#[]⟩):∀ e,e<=P.M.n->Iv P (Dn k i j (Lb e)) (z2s P (k,i,j) e s)
 | 0,_=>h.label fun l q d hl _=>by
  rcases hl with h1|⟨e,h1,_⟩
  ·exact h1
  omega
 | e+1,he=>by
  have ih:=Iv.edits hv hk h hx e (by omega);have hx2:(z2s P (k,i,j) e s).1 k i j≠⟨#[]⟩:=by
   have h1:=y0v (P:=P) (p:=(k,i,j)) (s:=s) e;rw[show (z2s P (k,i,j) e s).1 k i j=s.1 k i j from h1];exact hx
  unfold z2s
  split
  ·rename_i hc;obtain⟨h1,h2⟩:=z7t.1 hc;have hs:Sp P (k,i,j) (some e) (toP P (k,i,j) e) (qv (P.M.e e).w):=.edit (by omega) hk h1 h2;exact ih.rea (p:=(k,i,j)) hx2 hs (hv e (by omega)).q (hs.later _) (fun p' l' hd=>by
    refine Dn.add (L:=Lb e) (l0:=some e) ?_
    rcases hd with h3|⟨h3,h4|⟨h4,h5|⟨h5,h6⟩⟩⟩
    ·exact .inl h3
    ·exact .inr ⟨h3,.inl h4⟩
    ·exact .inr ⟨h3,.inr ⟨h4,.inl h5⟩⟩
    refine .inr ⟨h3,.inr ⟨h4,.inr ⟨h5,?_⟩⟩⟩
    rcases h6 with h6|⟨e',h6,h7⟩
    ·exact .inl (.inl h6)
    by_cases e2:e'=e
    ·right;rw[h7,e2]
    exact .inl (.inr ⟨e',by omega,h7⟩))
  rename_i hc;exact ih.label fun l q d hl hs=>by
   rcases hl with h3|⟨e',h3,h4⟩
   ·exact .inl h3
   by_cases e2:e'=e
   ·subst e2;subst h4;cases hs with
    | edit a b c d=>exact absurd (z7t.2 ⟨c,d⟩) hc
   exact .inr ⟨e',by omega,h4⟩
theorem Iv.step {P:EP} (I:∀ i,i<P.M.n->EdOk (P.M.e i)) {k i j:Nat} (L:(k:Int)<=P.M.most) {s:ST} (h:Iv P (Dn k i j fun _=>False) s):Iv P (Dn k i (j+1) fun _=>False) (stpC P (k,i,j) s):=by
 have o:∀ {s':ST},Iv P (Dn k i j fun _=>True) s'->Iv P (Dn k i (j+1) fun _=>False) s':=fun K=>K.fits fun p l c q d C _ _=>by
  rcases C with g|⟨g,r|⟨r,E|⟨E,D⟩⟩⟩
  ·exact .inl g
  ·exact .inr ⟨g,.inl r⟩
  ·by_cases e:p.2.2=j
   ·exact .inr ⟨g,.inr ⟨r,.inr ⟨e,trivial⟩⟩⟩
   exact .inr ⟨g,.inr ⟨r,.inl (by omega)⟩⟩
  exact D.elim
 unfold stpC
 split
 ·rename_i A;refine o ?_;obtain⟨T,g,r,E,D⟩:=h;refine⟨T,g,r,fun e=>(E e).fits fun p l c q d C u _=>?_,D⟩
  rcases C with v|⟨v,z|⟨z,G|⟨G,_⟩⟩⟩
  ·exact .inl v
  ·exact .inr ⟨v,.inl z⟩
  ·exact .inr ⟨v,.inr ⟨z,.inl G⟩⟩
  have e:p=(k,i,j):=Prod.ext v (Prod.ext z G);rw[e,g.empty (p:=(k,i,j)) A] at u;cases u
 rename_i A;have u:=h.copy A
 split
 ·rename_i H;refine o (u.label fun l q d _ F=>?_);cases F with
  | copy=>rfl
  | edit a b=>exfalso;have:((k:Nat):Int)=P.M.most:=H;omega
 rename_i H;have J:¬ ((k:Nat):Int)=P.M.most:=H;have B:(cpC P (k,i,j) s).1 k i j≠⟨#[]⟩:=by rw[show (cpC P (k,i,j) s).1 k i j=s.1 k i j from u0h (P:=P) (p:=(k,i,j))];exact A
 refine o ((u.edits I (by omega) B P.M.n (Nat.le_refl _)).label fun l q d _ F=>?_);cases F with
 | copy=>exact .inl rfl
 | edit a=>exact .inr ⟨_,a,rfl⟩
theorem Iv.cols {P:EP} (hv:∀ i,i<P.M.n->EdOk (P.M.e i)) {k i:Nat} (hk:(k:Int)<=P.M.most) {s:ST} (h:Iv P (Dn k i 0 fun _=>False) s):∀ j,Iv P (Dn k i j fun _=>False) (colP P k i j s)
 | 0=>h
 | j+1=>(Iv.cols hv hk h j).step hv hk
theorem Iv.rows {P:EP} (h0:0<=P.M.most) (hv:∀ i,i<P.M.n->EdOk (P.M.e i)) {k:Nat} (hk:(k:Int)<=P.M.most) {s:ST} (h:Iv P (Dn k 0 0 fun _=>False) s):∀ i,Iv P (Dn k i 0 fun _=>False) (rowP P k i s)
 | 0=>h
 | i+1=>((Iv.rows h0 hv hk h i).cols hv hk (P.b+1)).fits fun p l c q d hd hp _=>by
  have hr:=(hp.inR h0).2.2
  rcases hd with h1|⟨h1,h2|⟨h2,h3|⟨h3,h4⟩⟩⟩
  ·exact .inl h1
  ·by_cases e:p.2.1=i
   ·exact .inr ⟨h1,.inr ⟨e,.inl (by omega)⟩⟩
   exact .inr ⟨h1,.inl (by omega)⟩
  ·omega
  exact h4.elim
theorem Iv.all {P:EP} (h0:0<=P.M.most) (hv:∀ i,i<P.M.n->EdOk (P.M.e i)) {s:ST} (h:Iv P (Dn 0 0 0 fun _=>False) s):∀ k:Nat,(k:Int)<=P.M.most+1->Iv P (Dn k 0 0 fun _=>False) (tabP P k s)
 | 0,_=>h
 | k+1,hk=>((Iv.all h0 hv h k (by omega)).rows h0 hv (by omega) (P.a+1)).fits fun p l c q d hd hp _=>by
  have hr:=(hp.inR h0).2.1
  rcases hd with h1|⟨h1,h2|⟨h2,h3|⟨h3,h4⟩⟩⟩
  ·by_cases e:p.1=k
   ·exact .inr ⟨e,.inl (by omega)⟩
   exact .inl (by omega)
  ·omega
  ·omega
  exact h4.elim
theorem Iv.start (P:EP):Iv P (Dn 0 0 0 fun _=>False) (X0,0):=by
 have g:=Dp.start P;refine⟨fun q=>if q=(0,0,0) then some 0 else none,fun k i j=>?_,g.sound,fun _=>g.fits fun p l c q d h _ _=>?_,fun h=>absurd rfl h⟩
 ·by_cases e:k=0/\i=0/\j=0
  ·obtain⟨rfl,rfl,rfl⟩:=e;exact .inr ⟨0,by simp,by show X0 0 0 0=_;decide +kernel,x6h.2 ((show szQ 1 0 from ⟨by decide,by decide⟩).mono (by omega))⟩
  exact .inl ⟨if_neg (fun h=>e (by simp at h;exact h)),if_neg e⟩
 rcases h with h|⟨h,h|⟨_,h|⟨_,h⟩⟩⟩<;>omega
theorem x0f {X:XT} {T:TbE} (h:RelX X T) (a b:Nat):∀ m,fitO (lstO T a b m)/\lstS X a b m=y0f (lstO T a b m)
 | 0=>⟨trivial,rfl⟩
 | m+1=>by
  obtain⟨ih1,ih2⟩:=x0f h a b m;have hinf:∀ q,fitQ q->txt q≠infS:=fun q hq e=>by have:=z1e hq;rw[e,y0z] at this;cases this
  unfold lstS lstO;rw[ih2]
  rcases h m a b with ⟨h1,h2⟩|⟨c,h1,h2,h3⟩
  ·rw[if_neg (fun h=>h.1 h2),h1];cases ho:lstO T a b m with
   | none=>exact⟨trivial,rfl⟩
   | some u=>exact⟨by rw[ho] at ih1;exact ih1,rfl⟩
  rw[h1];cases ho:lstO T a b m with
  | none=>exact⟨h3,by rw[if_pos ⟨by rw[h2];exact y5j h3,.inl rfl⟩];exact h2⟩
  | some u =>
   have hu:fitQ u:=by rw[ho] at ih1;exact ih1
   have hcm:z3q (X m a b) (y0f (some u))=cmpQ c u:=by unfold z3q y0f;rw[h2,z1e h3,z1e hu]
   rw[hcm]
   rcases z1c c u with ⟨h5,h6⟩|⟨h5,h6⟩|⟨h5,h6⟩
   ·rw[if_pos ⟨by rw[h2];exact y5j h3,.inr (by rw[h6];decide)⟩];simp[h5];exact⟨h3,h2⟩
   ·rw[if_neg (fun h=>by rcases h.2 with h|h;exact hinf u hu h;rw[h6] at h;exact absurd h (by decide))]
    simp[h5];exact hu
   rw[if_neg (fun h=>by rcases h.2 with h|h;exact hinf u hu h;rw[h6] at h;exact absurd h (by decide))]
   simp[Rat.not_lt.2 (Rat.le_of_lt h5)];exact hu
theorem y2i {P:EP} (h:0<=P.M.most) (r:∀ i,i<P.M.n->EdOk (P.M.e i)):(∃ o,IsCost P o/\fitO o/\z6a P=(y0f o,0))\/(TooL P/\z6a P=(⟨#[]⟩,2)):=by
 obtain⟨T,u,v,s,j⟩:=(Iv.start P).all h r (P.M.most.toNat+1) (by omega);unfold z6a;by_cases c:(tabP P (P.M.most.toNat+1) (X0,0)).2=0
 ·left
  obtain⟨d,g⟩:=x0f u P.a P.b (P.M.most.toNat+1);refine⟨_,(s c).cost h fun p l k=>.inl (by have:=k.1;omega),d,?_⟩;rw[if_neg (by rw[c];simp),g]
 right
 obtain⟨d,g⟩:=j c;exact⟨g,by rw[if_pos c,d]⟩
end
section
open Go.RowKit Go.Deep Go.Shelf
attribute [local go_sem] Oper.semAt_some
theorem cell_of {w:World} {b:Nat} {c:Array Value} {e:TypeId} {f:Nat × Nat} (h:w.heap[b]?=some (.cells c e f)) (i:Nat) {v:Value} (d:c[i]?=some v):w.cell? ⟨b,i,none⟩=some v:=by
 simp[World.cell?,h,d]
theorem Si.drop {w:World} {a:Option Addr} {n cap:Nat} {x:Nat->Int} (h:Si none w (.slice a n cap) n x) {i:Nat} (hi:i<=n) :
  Si none w (.slice (if cap=i then a else a.map (fun p=>p.add i)) (n-i) (cap-i)) (n-i) (fun k=>x (i+k)):=by
 obtain⟨z,j,b,g,r,o,u,v,hb,c⟩:=h.open;cases r;by_cases l:n-i=0
 ·exact .inl ⟨l,_,_,by rw[l],by omega⟩
 have d:cap≠i:=by omega
 rw[if_neg d];obtain rfl:=o (by omega);refine .inr ⟨b,g+i,cap-i,?_,hb (by omega),by omega,by omega,fun k s=>?_⟩
 ·simp[Addr.add]
 rw[Nat.add_assoc];exact c (i+k) (by omega)
theorem z3t {w:World} {v:Value} {n:Nat} {x:Nat->Int} (h:Si none w v n x):(n:Int)<=9223372036854775807:=by
 obtain⟨_,_,_,_,_,_,d,c,_⟩:=h.open;unfold maxLen at c;omega
structure ItM (W:World) (tbb plb tb b off cap:Nat) (M:EM) (A A':Nat->Option Addr) (C C':Nat->Nat) (ea:Option Addr) (xv yv:Value) (na nb:Nat) (x y:Nat->Int) (k i j:Nat):Prop where
 kb:Bx W tbb 62 (.pointer (some ⟨tb,0,none⟩))
 kp:W.heap[plb]?=some (.cells #[.int .i64 (k:Int),.int .i64 (i:Int),.int .i64 (j:Int)] 70 (0,0))
 t0:W.cell? ⟨tb,0,none⟩=some (.slice ea M.n cap)
 t2:W.cell? ⟨tb,2,none⟩=some xv
 t3:W.cell? ⟨tb,3,none⟩=some yv
 row:∀ e,e<M.n->W.cell? ⟨b,off+e*3,none⟩=some (.slice (A e) (M.e e).nf (C e))/\W.cell? ⟨b,off+e*3+1,none⟩=some (.slice (A' e) (M.e e).nt (C' e))/\W.cell? ⟨b,off+e*3+2,none⟩=some (.string (M.e e).w) /\
  Si none W (.slice (A e) (M.e e).nf (C e)) (M.e e).nf (M.e e).f/\Si none W (.slice (A' e) (M.e e).nt (C' e)) (M.e e).nt (M.e e).t
 sx:Si none W xv na x
 sy:Si none W yv nb y
theorem ItM.fr {W p:World} {l d s b g cap na nb k i j:Nat} {M:EM} {A A':Nat->Option Addr} {C C':Nat->Nat} {u:Option Addr} {r v:Value} {x y:Nat->Int} (h:ItM W l d s b g cap M A A' C C' u r v na nb x y k i j) (c:Fr (fun _=>False) W p):ItM p l d s b g cap M A A' C C' u r v na nb x y k i j:=by
 have o:W.grownBy p none:=Fr.gb (c.mono (fun _ _ e=>e.elim));refine⟨h.kb.kept c (fun e=>e),(c.block d (lt_of_block h.kp) (fun e=>e)).trans h.kp,c.cell h.t0 (fun e=>e),c.cell h.t2 (fun e=>e),c.cell h.t3 (fun e=>e),fun e B=>?_,h.sx.kept o,h.sy.kept o⟩;obtain⟨E,D,F,z,G⟩:=h.row e B;exact⟨c.cell E (fun e=>e),c.cell D (fun e=>e),c.cell F (fun e=>e),z.kept o,G.kept o⟩
theorem u1q {M:EM} {na nb:Nat} {x y:Nat->Int} {k i j:Nat} (hi:i<=na) (g:j<=nb) (e:Nat):canB ⟨M,na,x,nb,y⟩ (k,i,j) e=(bgB (na-i) (M.e e).nf (fun t=>x (i+t)) (M.e e).f&&bgB (nb-j) (M.e e).nt (fun t=>y (j+t)) (M.e e).t):=by
 have d:decide (i+(M.e e).nf<=na)=decide ((M.e e).nf<=na-i):=decide_eq_decide.2 (by omega);have c:decide (j+(M.e e).nt<=nb)=decide ((M.e e).nt<=nb-j):=decide_eq_decide.2 (by omega);simp only[canB,bgB,d,c]
def SR (tbb tb plb eb:Nat) (xv yv k i j f t:Value) (x:ByteArray) (w:World):Prop :=
 (w.cell? ⟨tbb,0,none⟩=some (.pointer (some ⟨tb,0,none⟩))/\w.cell? ⟨tb,2,none⟩=some xv/\w.cell? ⟨tb,3,none⟩=some yv) /\
 (w.cell? ⟨plb,0,none⟩=some k/\w.cell? ⟨plb,1,none⟩=some i/\w.cell? ⟨plb,2,none⟩=some j) /\
 (w.cell? ⟨eb,0,none⟩=some f/\w.cell? ⟨eb,1,none⟩=some t/\w.cell? ⟨eb,2,none⟩=some (.string x))/\w.heap[eb]?=some (.cells #[f,t,.string x] 50 (0,0))
theorem SR.fr {g p d l:Nat} {o s k i j f t:Value} {x:ByteArray} {w r:World} (h:SR g p d l o s k i j f t x w) (c:Fr (fun _=>False) w r):SR g p d l o s k i j f t x r :=
 ⟨⟨c.cell h.1.1 (fun e=>e),c.cell h.1.2.1 (fun e=>e),c.cell h.1.2.2 (fun e=>e)⟩,⟨c.cell h.2.1.1 (fun e=>e),c.cell h.2.1.2.1 (fun e=>e),c.cell h.2.1.2.2 (fun e=>e)⟩,
  ⟨c.cell h.2.2.1.1 (fun e=>e),c.cell h.2.2.1.2.1 (fun e=>e),c.cell h.2.2.1.2.2 (fun e=>e)⟩,(c.block l (lt_of_block h.2.2.2) (fun e=>e)).trans h.2.2.2⟩
abbrev Al (P:EP) (p:Pl):Type:={ e:Nat // e<P.M.n/\canB P p e=true }
def encE (M:EM) (A A':Nat->Option Addr) (C C':Nat->Nat) (P:EP) (p:Pl) (e:Al P p):Array Value :=
 #[.agg #[.slice (A e.1) (M.e e.1).nf (C e.1),.slice (A' e.1) (M.e e.1).nt (C' e.1),.string (M.e e.1).w],plV (toP P p e.1).1 (toP P p e.1).2.1 (toP P p e.1).2.2]
theorem x4x {f:Nat->Bool}:∀ n,(nums f n).length<=n
 | 0=>by simp[nums]
 | n+1=>by
  have:=x4x (f:=f) n;unfold nums;rw[List.length_append];split<;>simp<;>omega
theorem u2t {P:EP} {p:Pl} {c:List (Al P p)} {q:Nat} (h:q<=P.M.n) (g:c.map (·.1)=nums (fun e=>canB P p e) q):c.length<P.M.n+1:=by
 have d:(c.map (·.1)).length=c.length:=by simp
 rw[g] at d;have:=x4x (f:=fun e=>canB P p e) q;omega
theorem v9f {P:EP} {p:Pl} {d:List (Al P p)} {q:Nat} (k:q<P.M.n) (j:d.map (·.1)=nums (fun e=>canB P p e) q) (i:canB P p q=false) {h:Prop} {J:List (Al P p)->Prop} (l:J d) (hi:h) :
  (∃ (g:Nat) (c:List (Al P p)),g<=P.M.n/\Value.int IntKind.i64 ((q:Int)+1)=.int .i64 (g:Int)/\c.map (·.1)=nums (fun e=>canB P p e) g/\J c/\h)/\P.M.n-(intOf (Value.int IntKind.i64 ((q:Int)+1))).toNat<P.M.n-(intOf (Value.int IntKind.i64 (q:Int))).toNat:=by
 refine⟨⟨q+1,d,k,by simp,?_,l,hi⟩,?_⟩
 ·rw[j];show _=nums _ q++_;simp only[i];simp
 simp[intOf];omega
theorem u1j {P:EP} {p:Pl} {d:List (Al P p)} {q:Nat} (j:q<P.M.n) (k:d.map (·.1)=nums (fun e=>canB P p e) q) (h:canB P p q=true) {i:Prop} {J:List (Al P p)->Prop} (l:J (d++[⟨q,j,h⟩])) (hi:i) :
  (∃ (g:Nat) (c:List (Al P p)),g<=P.M.n/\Value.int IntKind.i64 ((q:Int)+1)=.int .i64 (g:Int)/\c.map (·.1)=nums (fun e=>canB P p e) g/\J c/\i)/\P.M.n-(intOf (Value.int IntKind.i64 ((q:Int)+1))).toNat<P.M.n-(intOf (Value.int IntKind.i64 (q:Int))).toNat:=by
 refine⟨⟨q+1,_,j,by simp,?_,l,hi⟩,?_⟩
 ·rw[List.map_append,k];show _=nums _ q++_;simp only[h];simp
 simp[intOf];omega
theorem z6q {Q I tb b T cap na nb k i j:Nat} {M:EM} {A A':Nat->Option Addr} {C C':Nat->Nat} {ea:Option Addr} {xv yv:Value} {x y:Nat->Int} (nn:Nat) (w0:World)
  (hI:ItM w0 Q I tb b T cap M A A' C C' ea xv yv na nb x y k i j) (ha:0<M.n->ea=some ⟨b,T,none⟩) (hn:M.n<=400) (h2:k<=1000000) (d7:i<=na) (d3:j<=nb) :
  SeqStopsK Fence.wide nn prog 130 #[.pointer (some ⟨Q,0,none⟩),.pointer (some ⟨I,0,none⟩)] (encE M A A' C C' ⟨M,na,x,nb,y⟩ (k,i,j))
   (fun W W'=>ItM W Q I tb b T cap M A A' C C' ea xv yv na nb x y k i j->ItM W' Q I tb b T cap M A A' C C' ea xv yv na nb x y k i j)
   (fun xs=>xs.map (·.1)=nums (fun e=>canB ⟨M,na,x,nb,y⟩ (k,i,j) e) M.n) (fun _=>True) (M.n+1) w0:=by
 intro l J Jx W hW hJ d6 hY h0;have d8:Fr (fun _=>False) w0 W:=Fr.of_below hW;have a7:=hI.fr d8;have c0:=a7.kb.cell;have c1:=a7.t0;have HA:=qh ha;clear ha;have e0:=qh a7;clear a7 hI d8;have HY:=qh hY;clear hY;have HJ:=qh hJ;clear hJ;have f5:=qh d6;clear d6;have H0:=qh h0;clear h0;refine callsIn_of_wp func130 rfl trivial ?_ rfl;simp only[ntmps130,List.size_toArray,List.length_cons,List.length_nil,Nat.reduceAdd,Nat.reduceSub,Array.replicate_succ,Array.replicate_zero,List.push_toArray,List.append_toArray,List.nil_append,List.cons_append]
 gi_wp2
 clear c0 c1
 gi_loopw [12] (fun b7 wr=>∃ (q:Nat) (G:List (Al ⟨M,na,x,nb,y⟩ (k,i,j))),q<=M.n/\b7=.int .i64 (q:Int)/\G.map (·.1)=nums (fun e=>canB ⟨M,na,x,nb,y⟩ (k,i,j) e) q/\J G wr/\ItM wr Q I tb b T cap M A A' C C' ea xv yv na nb x y k i j) (fun b7 _=>M.n-(intOf b7).toNat)
 case atStart=>exact⟨0,[],Nat.zero_le _,rfl,rfl,H0.out,e0.out⟩
 obtain⟨q,G,hq,rfl,b3,hj,c6⟩:=hrel;clear e0 H0;have P:=qh b3;clear b3;have a4:=qh hj;clear hj;have F:=qh c6;clear c6;by_cases Z:q<M.n
 ·have g0:(q:Int)<(M.n:Int):=by omega
  have f4:(0:Int)<=(q:Int):=by omega
  obtain rfl:=HA.out (by omega);obtain⟨k1,k2,k3,k4,k5⟩:=F.out.row q Z;have d2:=qh k4;clear k4;have d0:=qh k5;clear k5;obtain⟨ax,cx,bx,ox,c8,g8,g9,f0,g1,f7⟩:=F.out.sx.open;obtain⟨ay,cy,h1,oy,d9,g2,g7,d4,g5,f8⟩:=F.out.sy.open;have e5:=qh d9;have c0:=F.out.kb.cell;have c2:=F.out.t2;have c3:=F.out.t3;have p0:wr.cell? ⟨I,0,none⟩=some (.int .i64 (k:Int)):=by simp[World.cell?,F.out.kp]
  have p1:wr.cell? ⟨I,1,none⟩=some (.int .i64 (i:Int)):=by simp[World.cell?,F.out.kp]
  have p2:wr.cell? ⟨I,2,none⟩=some (.int .i64 (j:Int)):=by simp[World.cell?,F.out.kp]
  gi_wp2
  obtain⟨wa,S⟩:=exq (wr.alloc (.cells #[.slice (A q) (M.e q).nf (C q),.slice (A' q) (M.e q).nt (C' q),.string (M.e q).w] 50));obtain⟨eb,a8⟩:=exq (wr.heap.size);have R:wr.grownBy wa none:=by rw[S];exact World.grownBy_alloc _ _ _
  have c7:wa.heap[eb]?=some (.cells #[.slice (A q) (M.e q).nf (C q),.slice (A' q) (M.e q).nt (C' q),.string (M.e q).w] 50 (0,0)):=by rw[S,a8];exact heap_alloc_new wr _
  have b5:wa.drew.heap[eb]?=some (.cells #[.slice (A q) (M.e q).nf (C q),.slice (A' q) (M.e q).nt (C' q),.string (M.e q).w] 50 (0,0)):=c7;have L:SR Q tb I eb (.slice ax na cx) (.slice ay nb cy) (.int .i64 (k:Int)) (.int .i64 (i:Int)) (.int .i64 (j:Int)) (.slice (A q) (M.e q).nf (C q)) (.slice (A' q) (M.e q).nt (C' q)) (M.e q).w wa.drew :=
   ⟨⟨R.cell c0 (by simp),c8 ▸ R.cell c2 (by simp),d9 ▸ R.cell c3 (by simp)⟩,⟨R.cell p0 (by simp),R.cell p1 (by simp),R.cell p2 (by simp)⟩,⟨cell_of b5 0 rfl,cell_of b5 1 rfl,cell_of b5 2 rfl⟩,c7⟩
  have b6:Fr (fun _=>False) wr wa.drew:=by rw[S];exact Fr.of_below (((Below.refl wr.heap.size wr).alloc (Nat.le_refl _) _).drew)
  have Y:wr.grownBy wa.drew none:=Fr.gb (b6.mono (fun _ _ e=>e.elim));have a3:=y7f wa.drew (Si.drop (c8 ▸ F.out.sx.kept Y) d7) (d2.out.kept Y) (z3t d2.out);obtain⟨b1,a1⟩:=exq (bgB (na-i) (M.e q).nf (fun t=>x (i+t)) (M.e q).f);obtain⟨b2,U⟩:=exq (bgB (nb-j) (M.e q).nt (fun t=>y (j+t)) (M.e q).t);have X:=u1q (M:=M) (x:=x) (y:=y) (k:=k) d7 d3 q;rw[<- a1,<- U] at X;rw[<- a1] at a3;have e4:=qh a3;clear a3;have c9:=qh U;clear U a1 Y;have N:=qh X;clear X;have e9:=qh b6;clear b6;clear c0 c2 c3 p0 p1 p2;rw[<- S,<- a8];have g3:=qh S;clear S;have g6:=qh a8;clear a8;refine x0y (SR Q tb I eb (.slice ax na cx) (.slice ay nb cy) (.int .i64 (k:Int)) (.int .i64 (i:Int)) (.int .i64 (j:Int)) (.slice (A q) (M.e q).nf (C q)) (.slice (A' q) (M.e q).nt (C' q)) (M.e q).w) 41 (by kernel_rfl) ?_;refine AnyF.tk (i:=0) (v:=?Yw) rfl rfl (by kernel_rfl) L (Or.inl ⟨by kernel_rfl,?yl⟩) (fun _ _ _=>trivial) ?Xd
  case yl=>rintro r ⟨⟨s1,s2,E⟩,⟨o,z,s⟩,⟨D,u,B⟩,d⟩;go_simp;try with_reducible rfl
  refine AnyF.tk (i:=1) (v:=?Yt) rfl rfl (by kernel_rfl) L (Or.inl ⟨by kernel_rfl,?zq⟩) (fun _ _ _=>trivial) ?Xe
  case zq=>rintro r ⟨⟨s1,s2,E⟩,⟨o,z,s⟩,⟨D,u,B⟩,d⟩;go_simp;try with_reducible rfl
  refine AnyF.tk (i:=2) (v:=?Ys) rfl rfl (by kernel_rfl) L (Or.inl ⟨by kernel_rfl,?zr⟩) (fun _ _ _=>trivial) ?Xj
  case zr=>rintro r ⟨⟨s1,s2,E⟩,⟨o,z,s⟩,⟨D,u,B⟩,d⟩;go_simp;try with_reducible rfl
  refine AnyF.tk (i:=3) (v:=?Yr) rfl rfl (by kernel_rfl) L (Or.inl ⟨by kernel_rfl,?zd⟩) (fun _ _ _=>trivial) ?Xh
  case zd=>rintro r ⟨⟨s1,s2,E⟩,⟨o,z,s⟩,⟨D,u,B⟩,d⟩;go_simp;try with_reducible rfl
  refine AnyF.tk (i:=4) (v:=?Yu) rfl rfl (by kernel_rfl) L (Or.inl ⟨by kernel_rfl,?yo⟩) (fun _ _ _=>trivial) ?Xi
  case yo=>rintro r ⟨⟨s1,s2,E⟩,⟨o,z,s⟩,⟨D,u,B⟩,d⟩;go_simp;try with_reducible rfl
  refine AnyF.tk (i:=5) (v:=?Yq) rfl rfl (by kernel_rfl) L (Or.inl ⟨by kernel_rfl,?zw⟩) (fun _ _ _=>trivial) ?Xc
  case zw=>rintro r ⟨⟨s1,s2,E⟩,⟨o,z,s⟩,⟨D,u,B⟩,d⟩;go_simp;try with_reducible rfl
  try simp only[Act.put,tryL]
  refine AnyF.tk (i:=6) (v:=.slice (if cx=i then ax else ax.map (fun p=>p.add i)) (na-i) (cx-i)) rfl rfl (by kernel_rfl) L (Or.inl ⟨by kernel_rfl,?yp⟩) (fun _ _ _=>trivial) ?_
  case yp=>rintro r ⟨⟨s1,s2,E⟩,⟨o,z,s⟩,⟨D,u,B⟩,d⟩;go_simp
  refine AnyF.tk (i:=7) (v:=?Yv) rfl rfl (by kernel_rfl) L (Or.inl ⟨by kernel_rfl,?zx⟩) (fun _ _ _=>trivial) ?Xf
  case zx=>rintro r ⟨⟨s1,s2,E⟩,⟨o,z,s⟩,⟨D,u,B⟩,d⟩;go_simp;try with_reducible rfl
  refine AnyF.tk (i:=8) (v:=?Yp) rfl rfl (by kernel_rfl) L (Or.inl ⟨by kernel_rfl,?yr⟩) (fun _ _ _=>trivial) ?Xg
  case yr=>rintro r ⟨⟨s1,s2,E⟩,⟨o,z,s⟩,⟨D,u,B⟩,d⟩;go_simp;try with_reducible rfl
  try simp only[Act.put,tryL]
  refine AnyF.one (i:=9) rfl (by kernel_rfl) (by rfl) (fun K H=>?_);unfold Oper.wpIn;refine⟨fun _ _=>trivial,?_⟩;rw[show (Fence.wide).round=none from rfl,Oper.semAt_none];go_simp;refine⟨(fun h=>by cases h),callsIn_wide.2 (e4.out.mono ?_)⟩;rintro rr w2 ⟨rfl,O⟩;have b8:Fr (fun _=>False) wa.drew w2:=Fr.of_below O;have c:=L.fr b8;have a5:=qh (e9.out.trans b8);clear b8 O;refine H.out _ _ (.inr (.inr c)) ?_;clear H K
  try simp only[Act.put,tryL]
  refine AnyF.tk (i:=10) (v:=?Yn) rfl rfl (by kernel_rfl) c (Or.inl ⟨by kernel_rfl,?xg⟩) (fun _ _ _=>trivial) ?ze
  case xg=>rintro r ⟨⟨s1,s2,E⟩,⟨o,z,s⟩,⟨D,u,B⟩,d⟩;go_simp;try with_reducible rfl
  try simp only[Act.put,tryL]
  cases b1
  ·skip
   refine AnyF.tk (i:=11) (v:=undef) rfl rfl (by kernel_rfl) c (Or.inr ⟨by kernel_rfl,rfl⟩) (fun _ _ _=>trivial) ?_;refine AnyF.tk (i:=12) (v:=undef) rfl rfl (by kernel_rfl) c (Or.inr ⟨by kernel_rfl,rfl⟩) (fun _ _ _=>trivial) ?_;refine AnyF.tk (i:=13) (v:=undef) rfl rfl (by kernel_rfl) c (Or.inr ⟨by kernel_rfl,rfl⟩) (fun _ _ _=>trivial) ?_;refine AnyF.tk (i:=14) (v:=undef) rfl rfl (by kernel_rfl) c (Or.inr ⟨by kernel_rfl,rfl⟩) (fun _ _ _=>trivial) ?_;refine AnyF.tk (i:=15) (v:=undef) rfl rfl (by kernel_rfl) c (Or.inr ⟨by kernel_rfl,rfl⟩) (fun _ _ _=>trivial) ?_;refine AnyF.tk (i:=16) (v:=undef) rfl rfl (by kernel_rfl) c (Or.inr ⟨by kernel_rfl,rfl⟩) (fun _ _ _=>trivial) ?_;refine AnyF.tk (i:=17) (v:=undef) rfl rfl (by kernel_rfl) c (Or.inr ⟨by kernel_rfl,rfl⟩) (fun _ _ _=>trivial) ?_;refine AnyF.tk (i:=18) (v:=undef) rfl rfl (by kernel_rfl) c (Or.inr ⟨by kernel_rfl,rfl⟩) (fun _ _ _=>trivial) ?_;refine AnyF.tk (i:=19) (v:=undef) rfl rfl (by kernel_rfl) c (Or.inr ⟨by kernel_rfl,rfl⟩) (fun _ _ _=>trivial) ?_;refine AnyF.tk (i:=20) (v:=undef) rfl rfl (by kernel_rfl) c (Or.inr ⟨by kernel_rfl,rfl⟩) (fun _ _ _=>trivial) ?_
   try simp only[Act.put,tryL]
   refine AnyF.tk (i:=21) (v:=?Yb) rfl rfl (by kernel_rfl) c (Or.inl ⟨by kernel_rfl,?ya⟩) (fun _ _ _=>trivial) ?zk
   case ya=>rintro r ⟨⟨s1,s2,E⟩,⟨o,z,s⟩,⟨D,u,B⟩,d⟩;go_simp;try with_reducible rfl
   refine AnyF.tk (i:=22) (v:=?Xm) rfl rfl (by kernel_rfl) c (Or.inl ⟨by kernel_rfl,?xc⟩) (fun _ _ _=>trivial) ?zc
   case xc=>rintro r ⟨⟨s1,s2,E⟩,⟨o,z,s⟩,⟨D,u,B⟩,d⟩;go_simp;try with_reducible rfl
   try simp only[Act.put,tryL]
   refine AnyF.tk (i:=23) (v:=undef) rfl rfl (by kernel_rfl) c (Or.inr ⟨by kernel_rfl,rfl⟩) (fun _ _ _=>trivial) ?_;refine AnyF.tk (i:=24) (v:=undef) rfl rfl (by kernel_rfl) c (Or.inr ⟨by kernel_rfl,rfl⟩) (fun _ _ _=>trivial) ?_;refine AnyF.tk (i:=25) (v:=undef) rfl rfl (by kernel_rfl) c (Or.inr ⟨by kernel_rfl,rfl⟩) (fun _ _ _=>trivial) ?_;refine AnyF.tk (i:=26) (v:=undef) rfl rfl (by kernel_rfl) c (Or.inr ⟨by kernel_rfl,rfl⟩) (fun _ _ _=>trivial) ?_;refine AnyF.tk (i:=27) (v:=undef) rfl rfl (by kernel_rfl) c (Or.inr ⟨by kernel_rfl,rfl⟩) (fun _ _ _=>trivial) ?_;refine AnyF.tk (i:=28) (v:=undef) rfl rfl (by kernel_rfl) c (Or.inr ⟨by kernel_rfl,rfl⟩) (fun _ _ _=>trivial) ?_;refine AnyF.tk (i:=29) (v:=undef) rfl rfl (by kernel_rfl) c (Or.inr ⟨by kernel_rfl,rfl⟩) (fun _ _ _=>trivial) ?_;refine AnyF.tk (i:=30) (v:=undef) rfl rfl (by kernel_rfl) c (Or.inr ⟨by kernel_rfl,rfl⟩) (fun _ _ _=>trivial) ?_;refine AnyF.tk (i:=31) (v:=undef) rfl rfl (by kernel_rfl) c (Or.inr ⟨by kernel_rfl,rfl⟩) (fun _ _ _=>trivial) ?_;refine AnyF.tk (i:=32) (v:=undef) rfl rfl (by kernel_rfl) c (Or.inr ⟨by kernel_rfl,rfl⟩) (fun _ _ _=>trivial) ?_;refine AnyF.tk (i:=33) (v:=undef) rfl rfl (by kernel_rfl) c (Or.inr ⟨by kernel_rfl,rfl⟩) (fun _ _ _=>trivial) ?_;refine AnyF.tk (i:=34) (v:=undef) rfl rfl (by kernel_rfl) c (Or.inr ⟨by kernel_rfl,rfl⟩) (fun _ _ _=>trivial) ?_;refine AnyF.tk (i:=35) (v:=undef) rfl rfl (by kernel_rfl) c (Or.inr ⟨by kernel_rfl,rfl⟩) (fun _ _ _=>trivial) ?_;refine AnyF.tk (i:=36) (v:=undef) rfl rfl (by kernel_rfl) c (Or.inr ⟨by kernel_rfl,rfl⟩) (fun _ _ _=>trivial) ?_;refine AnyF.tk (i:=37) (v:=undef) rfl rfl (by kernel_rfl) c (Or.inr ⟨by kernel_rfl,rfl⟩) (fun _ _ _=>trivial) ?_;refine AnyF.tk (i:=38) (v:=undef) rfl rfl (by kernel_rfl) c (Or.inr ⟨by kernel_rfl,rfl⟩) (fun _ _ _=>trivial) ?_;refine AnyF.tk (i:=39) (v:=undef) rfl rfl (by kernel_rfl) c (Or.inr ⟨by kernel_rfl,rfl⟩) (fun _ _ _=>trivial) ?_;refine AnyF.tk (i:=40) (v:=undef) rfl rfl (by kernel_rfl) c (Or.inr ⟨by kernel_rfl,rfl⟩) (fun _ _ _=>trivial) ?_
   try simp only[Act.put,tryL]
   refine AnyF.pass (i:=41) rfl (by kernel_rfl) (by rfl) (fun _ _=>trivial) (.inl rfl) ?_
   try simp only[Act.put,tryL]
   refine AnyF.pass (i:=42) rfl (by kernel_rfl) (by rfl) (fun _ _=>trivial) (.inr (.inl (by rfl))) ?_
   try simp only[Act.put,tryL]
   refine AnyF.one (i:=43) rfl (by kernel_rfl) (by rfl) (fun K H=>?_);unfold Oper.wpIn;refine⟨fun _ _=>trivial,?_⟩;rw[show (Fence.wide).round=none from rfl,Oper.semAt_none];go_simp;refine H.out _ _ (.inr (.inl (by rfl))) (AnyF.done (by kernel_rfl) ?_ _);clear H K
   gi_wp2
   exact v9f Z P.out (N.out.trans (by simp)) (J:=fun G=>J G w2) (HJ.out G wr w2 none a4.out (Fr.gb (a5.out.mono (fun _ _ e=>e.elim))) (by simp)) (F.out.fr a5.out)
  skip
  refine AnyF.tk (i:=11) (v:=?Xq) rfl rfl (by kernel_rfl) c (Or.inl ⟨by kernel_rfl,?yh⟩) (fun _ _ _=>trivial) ?zp
  case yh=>rintro r ⟨⟨s1,s2,E⟩,⟨o,z,s⟩,⟨D,u,B⟩,d⟩;go_simp;try with_reducible rfl
  refine AnyF.tk (i:=12) (v:=?Xw) rfl rfl (by kernel_rfl) c (Or.inl ⟨by kernel_rfl,?yd⟩) (fun _ _ _=>trivial) ?zv
  case yd=>rintro r ⟨⟨s1,s2,E⟩,⟨o,z,s⟩,⟨D,u,B⟩,d⟩;go_simp;try with_reducible rfl
  refine AnyF.tk (i:=13) (v:=?Yh) rfl rfl (by kernel_rfl) c (Or.inl ⟨by kernel_rfl,?xo⟩) (fun _ _ _=>trivial) ?ym
  case xo=>rintro r ⟨⟨s1,s2,E⟩,⟨o,z,s⟩,⟨D,u,B⟩,d⟩;go_simp;try with_reducible rfl
  refine AnyF.tk (i:=14) (v:=?Ym) rfl rfl (by kernel_rfl) c (Or.inl ⟨by kernel_rfl,?xh⟩) (fun _ _ _=>trivial) ?zu
  case xh=>rintro r ⟨⟨s1,s2,E⟩,⟨o,z,s⟩,⟨D,u,B⟩,d⟩;go_simp;try with_reducible rfl
  refine AnyF.tk (i:=15) (v:=?Yc) rfl rfl (by kernel_rfl) c (Or.inl ⟨by kernel_rfl,?xb⟩) (fun _ _ _=>trivial) ?zt
  case xb=>rintro r ⟨⟨s1,s2,E⟩,⟨o,z,s⟩,⟨D,u,B⟩,d⟩;go_simp;try with_reducible rfl
  refine AnyF.tk (i:=16) (v:=?Xx) rfl rfl (by kernel_rfl) c (Or.inl ⟨by kernel_rfl,?yk⟩) (fun _ _ _=>trivial) ?zf
  case yk=>rintro r ⟨⟨s1,s2,E⟩,⟨o,z,s⟩,⟨D,u,B⟩,d⟩;go_simp;try with_reducible rfl
  try simp only[Act.put,tryL]
  refine AnyF.tk (i:=17) (v:=.slice (if cy=j then ay else ay.map (fun p=>p.add j)) (nb-j) (cy-j)) rfl rfl (by kernel_rfl) c (Or.inl ⟨by kernel_rfl,?xr⟩) (fun _ _ _=>trivial) ?_
  case xr=>rintro r ⟨⟨s1,s2,E⟩,⟨o,z,s⟩,⟨D,u,B⟩,d⟩;go_simp
  refine AnyF.tk (i:=18) (v:=?Yl) rfl rfl (by kernel_rfl) c (Or.inl ⟨by kernel_rfl,?xm⟩) (fun _ _ _=>trivial) ?yq
  case xm=>rintro r ⟨⟨s1,s2,E⟩,⟨o,z,s⟩,⟨D,u,B⟩,d⟩;go_simp;try with_reducible rfl
  refine AnyF.tk (i:=19) (v:=?Xl) rfl rfl (by kernel_rfl) c (Or.inl ⟨by kernel_rfl,?xp⟩) (fun _ _ _=>trivial) ?zz
  case xp=>rintro r ⟨⟨s1,s2,E⟩,⟨o,z,s⟩,⟨D,u,B⟩,d⟩;go_simp;try with_reducible rfl
  try simp only[Act.put,tryL]
  have a2:wr.grownBy w2 none:=Fr.gb (a5.out.mono (fun _ _ e=>e.elim));have O:=y7f w2 (Si.drop (e5.out ▸ F.out.sy.kept a2) d3) (d0.out.kept a2) (z3t d0.out);rw[<- c9.out] at O;have e6:=qh O;clear O a2;refine AnyF.one (i:=20) rfl (by kernel_rfl) (by rfl) (fun K H=>?_);unfold Oper.wpIn;refine⟨fun _ _=>trivial,?_⟩;rw[show (Fence.wide).round=none from rfl,Oper.semAt_none];go_simp;refine⟨(fun h=>by cases h),callsIn_wide.2 (e6.out.mono ?_)⟩;rintro rr w3 ⟨rfl,d1⟩;have b9:Fr (fun _=>False) w2 w3:=Fr.of_below d1;have g:=c.fr b9;clear c;have a6:=qh (a5.out.trans b9);clear b9 d1;refine H.out _ _ (.inr (.inr g)) ?_;clear H K
  try simp only[Act.put,tryL]
  refine AnyF.tk (i:=21) (v:=?Yj) rfl rfl (by kernel_rfl) g (Or.inl ⟨by kernel_rfl,?xz⟩) (fun _ _ _=>trivial) ?zn
  case xz=>rintro r ⟨⟨s1,s2,E⟩,⟨o,z,s⟩,⟨D,u,B⟩,d⟩;go_simp;try with_reducible rfl
  refine AnyF.tk (i:=22) (v:=?Xt) rfl rfl (by kernel_rfl) g (Or.inl ⟨by kernel_rfl,?xx⟩) (fun _ _ _=>trivial) ?yt
  case xx=>rintro r ⟨⟨s1,s2,E⟩,⟨o,z,s⟩,⟨D,u,B⟩,d⟩;go_simp;try with_reducible rfl
  try simp only[Act.put,tryL]
  cases b2
  ·skip
   refine AnyF.tk (i:=23) (v:=undef) rfl rfl (by kernel_rfl) g (Or.inr ⟨by kernel_rfl,rfl⟩) (fun _ _ _=>trivial) ?_;refine AnyF.tk (i:=24) (v:=undef) rfl rfl (by kernel_rfl) g (Or.inr ⟨by kernel_rfl,rfl⟩) (fun _ _ _=>trivial) ?_;refine AnyF.tk (i:=25) (v:=undef) rfl rfl (by kernel_rfl) g (Or.inr ⟨by kernel_rfl,rfl⟩) (fun _ _ _=>trivial) ?_;refine AnyF.tk (i:=26) (v:=undef) rfl rfl (by kernel_rfl) g (Or.inr ⟨by kernel_rfl,rfl⟩) (fun _ _ _=>trivial) ?_;refine AnyF.tk (i:=27) (v:=undef) rfl rfl (by kernel_rfl) g (Or.inr ⟨by kernel_rfl,rfl⟩) (fun _ _ _=>trivial) ?_;refine AnyF.tk (i:=28) (v:=undef) rfl rfl (by kernel_rfl) g (Or.inr ⟨by kernel_rfl,rfl⟩) (fun _ _ _=>trivial) ?_;refine AnyF.tk (i:=29) (v:=undef) rfl rfl (by kernel_rfl) g (Or.inr ⟨by kernel_rfl,rfl⟩) (fun _ _ _=>trivial) ?_;refine AnyF.tk (i:=30) (v:=undef) rfl rfl (by kernel_rfl) g (Or.inr ⟨by kernel_rfl,rfl⟩) (fun _ _ _=>trivial) ?_;refine AnyF.tk (i:=31) (v:=undef) rfl rfl (by kernel_rfl) g (Or.inr ⟨by kernel_rfl,rfl⟩) (fun _ _ _=>trivial) ?_;refine AnyF.tk (i:=32) (v:=undef) rfl rfl (by kernel_rfl) g (Or.inr ⟨by kernel_rfl,rfl⟩) (fun _ _ _=>trivial) ?_;refine AnyF.tk (i:=33) (v:=undef) rfl rfl (by kernel_rfl) g (Or.inr ⟨by kernel_rfl,rfl⟩) (fun _ _ _=>trivial) ?_;refine AnyF.tk (i:=34) (v:=undef) rfl rfl (by kernel_rfl) g (Or.inr ⟨by kernel_rfl,rfl⟩) (fun _ _ _=>trivial) ?_;refine AnyF.tk (i:=35) (v:=undef) rfl rfl (by kernel_rfl) g (Or.inr ⟨by kernel_rfl,rfl⟩) (fun _ _ _=>trivial) ?_;refine AnyF.tk (i:=36) (v:=undef) rfl rfl (by kernel_rfl) g (Or.inr ⟨by kernel_rfl,rfl⟩) (fun _ _ _=>trivial) ?_;refine AnyF.tk (i:=37) (v:=undef) rfl rfl (by kernel_rfl) g (Or.inr ⟨by kernel_rfl,rfl⟩) (fun _ _ _=>trivial) ?_;refine AnyF.tk (i:=38) (v:=undef) rfl rfl (by kernel_rfl) g (Or.inr ⟨by kernel_rfl,rfl⟩) (fun _ _ _=>trivial) ?_;refine AnyF.tk (i:=39) (v:=undef) rfl rfl (by kernel_rfl) g (Or.inr ⟨by kernel_rfl,rfl⟩) (fun _ _ _=>trivial) ?_;refine AnyF.tk (i:=40) (v:=undef) rfl rfl (by kernel_rfl) g (Or.inr ⟨by kernel_rfl,rfl⟩) (fun _ _ _=>trivial) ?_
   try simp only[Act.put,tryL]
   refine AnyF.pass (i:=41) rfl (by kernel_rfl) (by rfl) (fun _ _=>trivial) (.inl rfl) ?_
   try simp only[Act.put,tryL]
   refine AnyF.pass (i:=42) rfl (by kernel_rfl) (by rfl) (fun _ _=>trivial) (.inr (.inl (by rfl))) ?_
   try simp only[Act.put,tryL]
   refine AnyF.one (i:=43) rfl (by kernel_rfl) (by rfl) (fun K H=>?_);unfold Oper.wpIn;refine⟨fun _ _=>trivial,?_⟩;rw[show (Fence.wide).round=none from rfl,Oper.semAt_none];go_simp;refine H.out _ _ (.inr (.inl (by rfl))) (AnyF.done (by kernel_rfl) ?_ _);clear H K
   gi_wp2
   exact v9f Z P.out (N.out.trans (by simp)) (J:=fun G=>J G w3) (HJ.out G wr w3 none a4.out (Fr.gb (a6.out.mono (fun _ _ e=>e.elim))) (by simp)) (F.out.fr a6.out)
  skip
  obtain⟨fn,f2,e3,f1,hy,hR⟩:=HY.out G ⟨q,Z,N.out.trans (by simp)⟩ w3 (HJ.out G wr w3 none a4.out (Fr.gb (a6.out.mono (fun _ _ e=>e.elim))) (by simp)) (u2t hq P.out);simp only[encE,toP,plV,Int.natCast_add,Int.natCast_one] at hy;have b4:=z7t.1 (N.out.trans (by simp));have a3:i+(M.e q).nf<=na:=b4.1.1;have O:j+(M.e q).nt<=nb:=b4.2.1;unfold maxLen at f0 d4;have f9:IntKind.i64.wrap ((k:Int)+1)=(k:Int)+1:=by rw[IntKind.wrap_i64];omega
  have g4:IntKind.i64.wrap ((i:Int)+((M.e q).nf:Int))=(i:Int)+((M.e q).nf:Int):=by rw[IntKind.wrap_i64];omega
  have h3:IntKind.i64.wrap ((j:Int)+((M.e q).nt:Int))=(j:Int)+((M.e q).nt:Int):=by rw[IntKind.wrap_i64];omega
  clear b4 a3 O;refine AnyF.tk (i:=23) (v:=?Xp) rfl rfl (by kernel_rfl) g (Or.inl ⟨by kernel_rfl,?xf⟩) (fun _ _ _=>trivial) ?zs
  case xf=>rintro r ⟨⟨s1,s2,E⟩,⟨o,z,s⟩,⟨D,u,B⟩,d⟩;go_simp;try with_reducible rfl
  refine AnyF.tk (i:=24) (v:=?Xz) rfl rfl (by kernel_rfl) g (Or.inl ⟨by kernel_rfl,?yc⟩) (fun _ _ _=>trivial) ?yw
  case yc=>rintro r ⟨⟨s1,s2,E⟩,⟨o,z,s⟩,⟨D,u,B⟩,d⟩;go_simp;try with_reducible rfl
  refine AnyF.tk (i:=25) (v:=?Yd) rfl rfl (by kernel_rfl) g (Or.inl ⟨by kernel_rfl,?xi⟩) (fun _ _ _=>trivial) ?ys
  case xi=>rintro r ⟨⟨s1,s2,E⟩,⟨o,z,s⟩,⟨D,u,B⟩,d⟩;go_simp;try with_reducible rfl
  refine AnyF.tk (i:=26) (v:=?Xv) rfl rfl (by kernel_rfl) g (Or.inl ⟨by kernel_rfl,?yg⟩) (fun _ _ _=>trivial) ?Xa
  case yg=>rintro r ⟨⟨s1,s2,E⟩,⟨o,z,s⟩,⟨D,u,B⟩,d⟩;go_simp;try with_reducible rfl
  refine AnyF.tk (i:=27) (v:=?Xs) rfl rfl (by kernel_rfl) g (Or.inl ⟨by kernel_rfl,?yi⟩) (fun _ _ _=>trivial) ?zo
  case yi=>rintro r ⟨⟨s1,s2,E⟩,⟨o,z,s⟩,⟨D,u,B⟩,d⟩;go_simp;try with_reducible rfl
  refine AnyF.tk (i:=28) (v:=?Xu) rfl rfl (by kernel_rfl) g (Or.inl ⟨by kernel_rfl,?xt⟩) (fun _ _ _=>trivial) ?zb
  case xt=>rintro r ⟨⟨s1,s2,E⟩,⟨o,z,s⟩,⟨D,u,B⟩,d⟩;go_simp;try with_reducible rfl
  refine AnyF.tk (i:=29) (v:=?Xk) rfl rfl (by kernel_rfl) g (Or.inl ⟨by kernel_rfl,?xw⟩) (fun _ _ _=>trivial) ?zh
  case xw=>rintro r ⟨⟨s1,s2,E⟩,⟨o,z,s⟩,⟨D,u,B⟩,d⟩;go_simp;try with_reducible rfl
  refine AnyF.tk (i:=30) (v:=?Xn) rfl rfl (by kernel_rfl) g (Or.inl ⟨by kernel_rfl,?xa⟩) (fun _ _ _=>trivial) ?yx
  case xa=>rintro r ⟨⟨s1,s2,E⟩,⟨o,z,s⟩,⟨D,u,B⟩,d⟩;go_simp;try with_reducible rfl
  refine AnyF.tk (i:=31) (v:=?Xr) rfl rfl (by kernel_rfl) g (Or.inl ⟨by kernel_rfl,?xn⟩) (fun _ _ _=>trivial) ?yu
  case xn=>rintro r ⟨⟨s1,s2,E⟩,⟨o,z,s⟩,⟨D,u,B⟩,d⟩;go_simp;try with_reducible rfl
  refine AnyF.tk (i:=32) (v:=?Yk) rfl rfl (by kernel_rfl) g (Or.inl ⟨by kernel_rfl,?xl⟩) (fun _ _ _=>trivial) ?yy
  case xl=>rintro r ⟨⟨s1,s2,E⟩,⟨o,z,s⟩,⟨D,u,B⟩,d⟩;go_simp;try with_reducible rfl
  refine AnyF.tk (i:=33) (v:=?Yg) rfl rfl (by kernel_rfl) g (Or.inl ⟨by kernel_rfl,?xu⟩) (fun _ _ _=>trivial) ?zy
  case xu=>rintro r ⟨⟨s1,s2,E⟩,⟨o,z,s⟩,⟨D,u,B⟩,d⟩;go_simp;try with_reducible rfl
  refine AnyF.tk (i:=34) (v:=?Ya) rfl rfl (by kernel_rfl) g (Or.inl ⟨by kernel_rfl,?xj⟩) (fun _ _ _=>trivial) ?Xb
  case xj=>rintro r ⟨⟨s1,s2,E⟩,⟨o,z,s⟩,⟨D,u,B⟩,d⟩;go_simp;try with_reducible rfl
  refine AnyF.tk (i:=35) (v:=?Xo) rfl rfl (by kernel_rfl) g (Or.inl ⟨by kernel_rfl,?yj⟩) (fun _ _ _=>trivial) ?zl
  case yj=>rintro r ⟨⟨s1,s2,E⟩,⟨o,z,s⟩,⟨D,u,B⟩,d⟩;go_simp;try with_reducible rfl
  refine AnyF.tk (i:=36) (v:=?Xy) rfl rfl (by kernel_rfl) g (Or.inl ⟨by kernel_rfl,?yf⟩) (fun _ _ _=>trivial) ?za
  case yf=>rintro r ⟨⟨s1,s2,E⟩,⟨o,z,s⟩,⟨D,u,B⟩,d⟩;go_simp;try with_reducible rfl
  refine AnyF.tk (i:=37) (v:=?Yf) rfl rfl (by kernel_rfl) g (Or.inl ⟨by kernel_rfl,?xq⟩) (fun _ _ _=>trivial) ?yz
  case xq=>rintro r ⟨⟨s1,s2,E⟩,⟨o,z,s⟩,⟨D,u,B⟩,d⟩;go_simp;try with_reducible rfl
  refine AnyF.tk (i:=38) (v:=?Yo) rfl rfl (by kernel_rfl) g (Or.inl ⟨by kernel_rfl,?xd⟩) (fun _ _ _=>trivial) ?zj
  case xd=>rintro r ⟨⟨s1,s2,E⟩,⟨o,z,s⟩,⟨D,u,B⟩,d⟩;go_simp;try with_reducible rfl
  refine AnyF.tk (i:=39) (v:=?Ye) rfl rfl (by kernel_rfl) g (Or.inl ⟨by kernel_rfl,?xk⟩) (fun _ _ _=>trivial) ?zi
  case xk=>rintro r ⟨⟨s1,s2,E⟩,⟨o,z,s⟩,⟨D,u,B⟩,d⟩;go_simp;try with_reducible rfl
  refine AnyF.tk (i:=40) (v:=?Yi) rfl rfl (by kernel_rfl) g (Or.inl ⟨by kernel_rfl,?yb⟩) (fun _ _ _=>trivial) ?yn
  case yb=>rintro r ⟨⟨s1,s2,E⟩,⟨o,z,s⟩,⟨D,u,B⟩,d⟩;go_simp;try with_reducible rfl
  try simp only[Act.put,tryL]
  refine AnyF.one (i:=41) rfl (by kernel_rfl) (by rfl) (fun K H=>?_);unfold Oper.wpIn;refine⟨fun _ _=>trivial,?_⟩;rw[show (Fence.wide).round=none from rfl,Oper.semAt_none];go_simp;refine⟨(fun h=>by cases h),hR.mono ?_⟩;rintro e w5 (⟨rfl,e1,b0⟩|⟨rfl,a9⟩)
  ·have e7:=qh e1;clear e1;have e8:=qh (b0 (F.out.fr a6.out));clear b0;refine H.out _ _ (.inl rfl) ?_;clear H K
   try simp only[Act.put,tryL]
   refine AnyF.one (i:=42) rfl (by kernel_rfl) (by rfl) (fun K H=>?_);unfold Oper.wpIn;refine⟨fun _ _=>trivial,?_⟩;rw[show (Fence.wide).round=none from rfl,Oper.semAt_none];go_simp;refine H.out _ _ (.inr (.inl (by rfl))) ?_;clear H K
   try simp only[Act.put,tryL]
   refine AnyF.one (i:=43) rfl (by kernel_rfl) (by rfl) (fun K H=>?_);unfold Oper.wpIn;refine⟨fun _ _=>trivial,?_⟩;rw[show (Fence.wide).round=none from rfl,Oper.semAt_none];go_simp;refine H.out _ _ (.inr (.inl (by rfl))) (AnyF.done (by kernel_rfl) ?_ _);clear H K
   gi_wp2
   exact u1j Z P.out (N.out.trans (by simp)) (J:=fun G=>J G w5) e7.out e8.out
  have d5:=qh a9;clear a9;refine H.out _ _ (.inl rfl) ?_;clear H K
  try simp only[Act.put,tryL]
  refine AnyF.one (i:=42) rfl (by kernel_rfl) (by rfl) (fun K H=>?_);unfold Oper.wpIn;refine⟨fun _ _=>trivial,?_⟩;rw[show (Fence.wide).round=none from rfl,Oper.semAt_none];go_simp;refine H.out _ _ (.inr (.inl (by rfl))) ?_;clear H K
  try simp only[Act.put,tryL]
  refine AnyF.one (i:=43) rfl (by kernel_rfl) (by rfl) (fun K H=>?_);unfold Oper.wpIn;refine⟨fun _ _=>trivial,?_⟩;rw[show (Fence.wide).round=none from rfl,Oper.semAt_none];go_simp;refine H.out _ _ (.inr (.inl (by rfl))) (AnyF.done (by kernel_rfl) ?_ _);clear H K
  gi_wp2
  all_goals refine bodyPost_ret (results_none rfl _ _ _) rfl ?_
  all_goals exact⟨⟨_,rfl⟩,.inr ⟨_,d5.out⟩⟩
 obtain rfl:q=M.n:=by omega
 gi_wp2
 go_end0
 exact⟨⟨_,rfl⟩,.inl ⟨G,P.out,a4.out⟩⟩
end
end Go.Proofs.YtjekapjbigfkbaaGreatDoor
