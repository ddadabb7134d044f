/- Parts of a proof: C2 C3 CloC C5 RegF C7 WgL WgS WgT. -/
import Derived.Test.YtjekapjbigfkbaaGreatDoorT00
import Derived.Deep.OwnRows
import Derived.Deep.AppendLies
import Derived.Test.YtjekapjbigfkbaaGreatDoorT05
import Derived.Test.YtjekapjbigfkbaaGreatDoorT07
import Derived.Deep.QuietTactic
import Derived.BigQuiet
import Derived.Deep.RegionHeld2
import Derived.Deep.LoopGhost
import Derived.Deep.Light
import Derived.OwnWalk
import Derived.Deep.RegionLaw
import Derived.OrdersIn
namespace Go.Proofs.YtjekapjbigfkbaaGreatDoor
set_option maxRecDepth 100000
set_option linter.unusedSimpArgs false
set_option linter.unusedVariables false
set_option linter.unusedSectionVars false
set_option maxHeartbeats 16000000
open Go Tryz
section
open Go.RowKit Go.Deep
theorem z0c {w c:World} (h:Below w.heap.size w c) (z:Option Nat):w.grownBy c z:=⟨h.os,h.tape,h.output,h.size,fun q d _=>h.block q d⟩
def Rd (z:Option Nat) (w:World) (v:Value) (n:Nat) (f:Nat->Value):Prop :=
 (n=0/\∃ a cap,v=.slice a 0 cap/\cap<=maxLen)\/∃ b off cap,v=.slice (some ⟨b,off,none⟩) n cap/\(b<w.heap.size/\some b≠z)/\n<=cap/\cap<=maxLen/\∀ i,i<n->w.cell? ⟨b,off+i,none⟩=some (f i)
theorem Rd.kept {z:Option Nat} {w j:World} {v:Value} {n:Nat} {f:Nat->Value} (h:Rd z w v n f) (hb:w.grownBy j z):Rd z j v n f:=by
 rcases h with h|⟨b,c,g,l,d,p,o,k⟩
 ·exact .inl h
 exact .inr ⟨b,c,g,l,⟨Nat.lt_of_lt_of_le d.1 hb.size,d.2⟩,p,o,fun i hi=>(hb.cell_far ⟨b,c+i,none⟩ d.1 d.2).trans (k i hi)⟩
theorem Rd.open {z:Option Nat} {w:World} {v:Value} {n:Nat} {f:Nat->Value} (h:Rd z w v n f):∃ a cap b off,v=.slice a n cap/\(0<n->a=some ⟨b,off,none⟩)/\n<=cap/\cap<=maxLen /\
  (0<n->b<w.heap.size/\some b≠z)/\∀ i,i<n->w.cell? ⟨b,off+i,none⟩=some (f i):=by
 rcases h with ⟨rfl,a,cap,c,g⟩|⟨b,off,cap,c,k,l,j,d⟩
 ·exact⟨a,cap,0,0,c,by simp,by simp,g,by simp,by simp⟩
 exact⟨_,cap,b,off,c,fun _=>rfl,l,j,fun _=>k,d⟩
theorem Rd.congr {z:Option Nat} {w:World} {v:Value} {n:Nat} {f g:Nat->Value} (h:Rd z w v n f) (e:∀ i,i<n->f i=g i):Rd z w v n g:=by
 rcases h with h|⟨b,d,c,k,o,p,l,j⟩
 ·exact .inl h
 exact .inr ⟨b,d,c,k,o,p,l,fun i hi=>by rw[j i hi,e i hi]⟩
theorem Rd.shape {z:Option Nat} {w:World} {v:Value} {n:Nat} {f:Nat->Value} (h:Rd z w v n f):∃ a cap,v=.slice a n cap:=by
 obtain⟨a,cap,_,_,c,_⟩:=h.open;exact⟨a,cap,c⟩
theorem Rd.far {k:Nat} {z:Option Nat} {w:World} {v:Value} {n:Nat} {f:Nat->Value} (h:Rd z w v n f) (l:w.heap.size<=k):Rd (some k) w v n f:=by
 rcases h with h|⟨b,d,c,g,i,j⟩
 ·exact .inl h
 exact .inr ⟨b,d,c,g,⟨i.1,by simp;omega⟩,j⟩
def Ss (z:Option Nat) (w:World) (v:Value) (n:Nat) (X:Nat->ByteArray):Prop:=Rd z w v n fun i=>.string (X i)
def Mt (z:Option Nat) (w:World) (v:Value) (n:Nat) (L:Nat->Nat) (X:Nat->Nat->ByteArray):Prop:=∃ R,Rd z w v n R/\∀ i,i<n->Ss z w (R i) (L i) (X i)
section
variable {z:Option Nat} {w w':World} {v:Value} {n:Nat} {L L':Nat->Nat} {X X':Nat->Nat->ByteArray}
theorem Mt.kept (h:Mt z w v n L X) (hb:w.grownBy w' z):Mt z w' v n L X:=by
 obtain⟨R,c,d⟩:=h;exact⟨R,c.kept hb,fun i hi=>Rd.kept (d i hi) hb⟩
theorem Mt.far {k:Nat} (h:Mt z w v n L X) (c:w.heap.size<=k):Mt (some k) w v n L X:=by
 obtain⟨R,d,g⟩:=h;exact⟨R,d.far c,fun i hi=>Rd.far (g i hi) c⟩
theorem Mt.congr (h:Mt z w v n L X) (l:∀ i,i<n->L i=L' i) (c:∀ i j,i<n->j<L i->X i j=X' i j):Mt z w v n L' X':=by
 obtain⟨R,g,k⟩:=h;exact⟨R,g,fun i hi=>by rw[<- l i hi];exact Rd.congr (k i hi) fun j d=>by rw[c i j hi d]⟩
theorem Mt.open (h:Mt z w v n L X) :
  ∃ a cap b off,∃ (A:Nat->Option Addr) (C B O:Nat->Nat),v=.slice a n cap/\(0<n->a=some ⟨b,off,none⟩)/\n<=cap/\cap<=maxLen/\(0<n->b<w.heap.size/\some b≠z) /\
   ∀ i,i<n->w.cell? ⟨b,off+i,none⟩=some (.slice (A i) (L i) (C i))/\L i<=C i/\C i<=maxLen/\(0<L i->A i=some ⟨B i,O i,none⟩)/\(0<L i->B i<w.heap.size/\some (B i)≠z)/\Ss z w (.slice (A i) (L i) (C i)) (L i) (X i) /\
    ∀ j,j<L i->w.cell? ⟨B i,O i+j,none⟩=some (.string (X i j)):=by
 obtain⟨R,J,s⟩:=h;obtain⟨a,cap,b,off,H,E,u,G,hb,d⟩:=J.open
 classical
 have c:∀ i,∃ t:Option Addr × Nat × Nat × Nat,i<n->R i=.slice t.1 (L i) t.2.1/\(0<L i->t.1=some ⟨t.2.2.1,t.2.2.2,none⟩)/\L i<=t.2.1/\t.2.1<=maxLen/\(0<L i->t.2.2.1<w.heap.size/\some t.2.2.1≠z) /\
   ∀ j,j<L i->w.cell? ⟨t.2.2.1,t.2.2.2+j,none⟩=some (.string (X i j)):=fun i=>by
  by_cases hi:i<n
  ·obtain⟨D,I,K,F,g,k,o,r,l,p⟩:=Rd.open (s i hi);exact⟨(D,I,K,F),fun _=>⟨g,k,o,r,l,p⟩⟩
  exact⟨(none,0,0,0),fun h=>absurd h hi⟩
 refine⟨a,cap,b,off,fun i=>(Classical.choose (c i)).1,fun i=>(Classical.choose (c i)).2.1,fun i=>(Classical.choose (c i)).2.2.1,fun i=>(Classical.choose (c i)).2.2.2,H,E,u,G,hb,fun i hi=>?_⟩;obtain⟨g,k,o,r,l,p⟩:=Classical.choose_spec (c i) hi;refine⟨by rw[d i hi,g],o,r,k,l,?_,p⟩;rw[<- g];exact s i hi
end
def strs (n:Nat) (X:Nat->ByteArray):List Value:=(List.range n).map fun j=>.string (X j)
theorem x5b (n:Nat) (X:Nat->ByteArray):(strs n X).length=n:=by simp[strs]
theorem y9m (n:Nat) (X:Nat->ByteArray) (i:Nat) (h:i<n):(strs n X)[i]?=some (.string (X i)):=by simp[strs,h]
theorem v3b (n:Nat) (X:Nat->ByteArray):strs n X++[.string (X n)]=strs (n+1) X:=by simp[strs,List.range_succ]
theorem y8f {n:Nat} {X Y:Nat->ByteArray} (h:∀ i,i<n->X i=Y i):strs n X=strs n Y:=by
 unfold strs;exact List.map_congr_left fun i hi=>by rw[h i (List.mem_range.1 hi)]
def OwS (w:World) (B:Nat) (e:TypeId) (v:Value) (n:Nat) (X:Nat->ByteArray):Prop:=w.ownsRow B e 1 v n (strs n X)
theorem OwS.congr {w:World} {B:Nat} {e:TypeId} {v:Value} {n:Nat} {X Y:Nat->ByteArray} (h:OwS w B e v n X) (c:∀ i,i<n->X i=Y i):OwS w B e v n Y:=by
 unfold OwS;rw[<- y8f c];exact h
theorem OwS.kept {w c:World} {B:Nat} {e:TypeId} {v:Value} {n:Nat} {X:Nat->ByteArray} {z:Option Nat} (h:OwS w B e v n X) (hb:w.grownBy c z) (g:∀ k,z=some k->k<B):OwS c B e v n X :=
 World.ownsRow.kept h hb (by
  cases d:v.ownBlock with
  | none=>exact .inl rfl
  | some k=>exact .inr (fun e=>by have:=(World.ownsRow.lt h k d).1;have:=g k e.symm;omega))
theorem u3k (x:ByteArray):∀ u ∈ [Value.string x],u.oneCell'=true:=by intro u c;simp at c;subst c;rfl
theorem OwS.set {w:World} {B:Nat} {e:TypeId} {g n cap:Nat} {X:Nat->ByteArray} (h:OwS w B e (.slice (some ⟨g,0,none⟩) n cap) n X) {i:Nat} (hi:i<n) (x:ByteArray) :
  OwS (w.setCell ⟨g,i,none⟩ (.string x)) B e (.slice (some ⟨g,0,none⟩) n cap) n (fun j=>if j=i then x else X j):=by
 refine⟨by rw[x5b,Nat.mul_one],?_⟩
 rcases h.2 with ⟨k,_⟩|⟨z,o,l,k,v,d,u,s,r,p⟩
 ·cases k
 cases k;refine .inr ⟨g,cap,l.setIfInBounds i (.string x),rfl,v,by simp[World.setCell,Array.getElem?_modify,d],u,s,by simpa using r,?_⟩;rw[Nat.mul_one] at r p ⊢;refine List.ext_getElem? fun j=>?_;by_cases c:j<n
 ·rw[y9m _ _ _ c,List.getElem?_take_of_lt c,Array.getElem?_toList,Array.getElem?_setIfInBounds];by_cases e:i=j
  ·subst e;rw[if_pos rfl,if_pos (by omega),if_pos rfl]
  rw[if_neg e,if_neg (fun h=>e h.symm)];have:=y9m n X j c;rw[<- p,List.getElem?_take_of_lt c,Array.getElem?_toList] at this;exact this
 rw[List.getElem?_eq_none (by rw[List.length_take];omega),List.getElem?_eq_none (by rw[x5b];omega)]
structure Gr (B:Nat) (z:Option Nat) (w w':World):Prop where
 os:w'.os=w.os
 tape:w'.tape=w.tape
 output:w'.output=w.output
 size:w.heap.size<=w'.heap.size
 block:∀ q,q<B->some q≠z->w'.heap[q]?=w.heap[q]?
namespace Gr
variable {B:Nat} {z:Option Nat} {w w' w2:World}
theorem refl (B:Nat) (z:Option Nat) (w:World):Gr B z w w:=⟨rfl,rfl,rfl,Nat.le_refl _,fun _ _ _=>rfl⟩
theorem trans (h:Gr B z w w') (k:Gr B z w' w2):Gr B z w w2:=⟨k.os.trans h.os,k.tape.trans h.tape,k.output.trans h.output,Nat.le_trans h.size k.size,fun q c d=>(k.block q c d).trans (h.block q c d)⟩
theorem of (h:w.grownBy w' z) (d:B<=w.heap.size):Gr B z w w':=⟨h.os,h.tape,h.output,h.size,fun q g c=>h.block q (by omega) c⟩
theorem mono {c:Nat} (h:Gr B z w w') (g:c<=B):Gr c z w w':=⟨h.os,h.tape,h.output,h.size,fun q i d=>h.block q (by omega) d⟩
theorem set (h:Gr B z w w') {p:Addr} (c:some p.block=z\/B<=p.block) (v:Value):Gr B z w (w'.setCell p v) :=
 h.trans ⟨rfl,rfl,rfl,by rw[nblk_setCell];exact Nat.le_refl _,fun q g d=>blk_setCell_other _ _ _ _ (by
  rcases c with e|e
  ·intro e2;exact d (by rw[e2,e])
  omega)⟩
theorem drewN (h:Gr B z w w') (n:Nat):Gr B z w (w'.drewN n):=h.trans ⟨rfl,rfl,rfl,Nat.le_refl _,fun _ _ _=>rfl⟩
end Gr
structure OM (w:World) (Z:Nat->Prop) (B:Nat) (eR eT:TypeId) (g n:Nat) (R:Nat->Value) (L:Nat->Nat) (X:Nat->Nat->ByteArray):Prop where
 top:w.rowIs g eT n R
 base:B<=g
 zg:¬ Z g
 zlt:∀ b,Z b->b<w.heap.size
 row:∀ i,i<n->OwS w B eR (R i) (L i) (X i)
 far:∀ i,i<n->∀ b,(R i).ownBlock=some b->b≠g/\¬ Z b
 apart:∀ i j,i<n->j<n->i≠j->∀ b,(R i).ownBlock=some b->(R j).ownBlock≠some b
namespace OM
variable {w w':World} {Z:Nat->Prop} {B:Nat} {eR eT:TypeId} {g n:Nat} {R:Nat->Value} {L:Nat->Nat} {X:Nat->Nat->ByteArray}
theorem kept {z:Option Nat} (h:OM w Z B eR eT g n R L X) (hb:w.grownBy w' z) (d:∀ k,z=some k->k<B):OM w' Z B eR eT g n R L X :=
 ⟨h.top.of_block (hb.block g h.top.lt (fun e=>by have:=d g e.symm;have:=h.base;omega)),h.base,h.zg,fun b c=>Nat.lt_of_lt_of_le (h.zlt b c) hb.size,fun i hi=>(h.row i hi).kept hb d,h.far,h.apart⟩
theorem congr {c:Nat->Nat->ByteArray} (h:OM w Z B eR eT g n R L X) (k:∀ i j,i<n->j<L i->X i j=c i j):OM w Z B eR eT g n R L c :=
 ⟨h.top,h.base,h.zg,h.zlt,fun i hi=>(h.row i hi).congr fun j d=>k i j hi d,h.far,h.apart⟩
theorem frozen (h:OM w Z B eR eT g n R L X) (i:Nat):w.frozen? ⟨g,i,none⟩=false:=h.top.frozen i
theorem lt (h:OM w Z B eR eT g n R L X):g<w.heap.size:=h.top.lt
theorem rowLt (h:OM w Z B eR eT g n R L X) {i:Nat} (hi:i<n):∀ k,(R i).ownBlock=some k->B<=k/\k<w.heap.size:=World.ownsRow.lt (h.row i hi)
theorem stored (h:OM w Z B eR eT g n R L X) {i j b cap:Nat} (hi:i<n) (r:j<L i) (d:R i=.slice (some ⟨b,0,none⟩) (L i) cap) (x:ByteArray) :
  OM (w.setCell ⟨b,j,none⟩ (.string x)) Z B eR eT g n R L (fun k l=>if k=i/\l=j then x else X k l):=by
 have o:=(h.far i hi b (by rw[d];rfl)).1;refine⟨h.top.setOther (by show g≠b;exact fun e=>o e.symm) _,h.base,h.zg,fun b hb=>by rw[nblk_setCell];exact h.zlt b hb,fun k c=>?_,h.far,h.apart⟩;by_cases e:k=i
 ·subst e;have:=h.row k c;rw[d] at this ⊢;exact(this.set r x).congr fun l _=>by simp
 refine OwS.congr (World.ownsRow.kept (h.row k c) ⟨rfl,rfl,rfl,by simp,fun q _ p=>blk_setCell_other _ _ _ _ (by show q≠b;intro e;exact p (by rw[e]))⟩ (row:=some b) (by
  cases hb:(R k).ownBlock with
  | none=>exact .inl rfl
  | some b'=>exact .inr (fun e2=>h.apart k i c hi e b' hb (by rw[d,Value.ownBlock];exact e2.symm)))) fun l _=>by simp[e]
end OM
end
section
open Go.RowKit
def Is (k:KK) (e:Nat) (s:ByteArray) (x:RK k):Prop:=s.size<=100000/\(e=0->s=vtxt x.1/\fitV x.1)
theorem Is.size {k:KK} {e:Nat} {s:ByteArray} {x:RK k} (h:Is k e s x):s.size<=100000:=h.1
theorem Is.mono {k:KK} {e c:Nat} {s:ByteArray} {x:RK k} (h:Is k e s x) (d:c=0->e=0):Is k c s x:=⟨h.1,fun g=>h.2 (d g)⟩
theorem Is.vprs {k:KK} {s:ByteArray} {x:RK k} (h:Is k 0 s x):vprs k.1 s=some x.1:=by
 obtain⟨d,c⟩:=h.2 rfl;rw[d];exact y4i c x.2
theorem x8q (v:V):(fitV v/\limV v=(vtxt v,0))\/(¬ fitV v/\(limV v).2=2):=by
 by_cases h:fitV v
 ·exact .inl ⟨h,z8c h⟩
 right;refine⟨h,?_⟩
 cases v with
 | inf=>exact absurd trivial h
 | low=>exact absurd trivial h
 | fin q=>show (limR q).2=2;unfold limR;rw[if_neg (show ¬ fitQ q from h)]
theorem v5j (k:KK):fitV (CSR.zero:RK k).1:=(x6w k.1 (k:=1) (by omega)).fit (by omega)
theorem u2v (k:KK):fitV (CSR.one:RK k).1:=(u1c k.1 (k:=1) (by omega)).fit (by omega)
theorem Is.zero (k:KK) (e:Nat):Is k e (z2b k.1) CSR.zero:=⟨y3b k.1,fun _=>⟨y8u k.2,v5j k⟩⟩
theorem Is.one (k:KK) (e:Nat):Is k e (oneF k.1) CSR.one:=⟨x9k k.1,fun _=>⟨u1e k.2,u2v k⟩⟩
theorem Is.eq {k:KK} {s t:ByteArray} {x y:RK k} (h:Is k 0 s x) (c:Is k 0 t y) (e:x=y):s=t:=by
 rw[(h.2 rfl).1,(c.2 rfl).1,e]
def TabB (B:Nat) (w:World):Prop:=∀ w',Below B w w'->Tab w'
theorem TabB.tab {B:Nat} {w:World} (h:TabB B w):Tab w:=h w (Below.refl _ _)
theorem TabB.of {w:World} (h:Tab w):TabB w.heap.size w:=fun _ hb=>h.below hb (Nat.le_refl _)
theorem TabB.kept {B:Nat} {w d:World} {z:Option Nat} (h:TabB B w) (c:w.grownBy d z) (i:∀ k,z=some k->B<=k) (j:B<=w.heap.size):TabB B d:=fun g hb =>
 h g (Below.trans ⟨c.os,c.tape,c.output,c.size,fun q l=>c.block q (by omega) (fun e=>by have:=i q e.symm;omega)⟩ hb)
end
section
open Go.RowKit
def wval (k:KK) (s:ByteArray):RK k:=match h:vprs k.1 s with
 | some v=>⟨v,(z5i.1 h).2⟩
 | none=>CSR.zero
theorem Is.val {k:KK} {s:ByteArray} {x:RK k} (h:Is k 0 s x):wval k s=x:=by
 have d:=h.vprs;unfold wval
 split
 ·rename_i v c;rw[d] at c;cases c;rfl
 rename_i c;rw[d] at c;cases c
end
section
open Go.RowKit Go.Deep
def SumB (w:World) (sb:Nat) (k:Int) (e:Nat):Prop:=w.heap[sb]?=some (.cells #[.int .i64 k,.int .i64 (e:Int)] 186 (0,0))
theorem SumB.lt {w:World} {c e:Nat} {k:Int} (h:SumB w c k e):c<w.heap.size:=(Array.getElem?_eq_some_iff.1 h).1
theorem SumB.c0 {w:World} {c e:Nat} {k:Int} (h:SumB w c k e):w.cell? ⟨c,0,none⟩=some (.int .i64 k):=by unfold SumB at h;simp[World.cell?,h]
theorem SumB.set {w:World} {c e:Nat} {k:Int} (h:SumB w c k e) (d:Nat):SumB (w.setCell ⟨c,1,none⟩ (.int .i64 (d:Int))) c k d:=by
 unfold SumB at *;simp[World.setCell,Array.getElem?_modify,h]
theorem SumB.kept {w d:World} {c e:Nat} {k:Int} (h:SumB w c k e) (hb:Below w.heap.size w d):SumB d c k e:=by
 unfold SumB at *;rw[hb.block c (Array.getElem?_eq_some_iff.1 h).1];exact h
end
section
open Go.RowKit Go.Deep
theorem y4g:(prog.info? 9).map (fun i=>(i.zero,i.size,i.bytes))=some (some (.string ⟨#[]⟩),1,16):=by kernel_rfl
theorem y1d:(prog.info? 67).map (fun i=>(i.zero,i.size,i.bytes))=some (some (.slice none 0 0),1,24):=by kernel_rfl
structure Tb (w:World) (k:Int) (B tb sb g n e:Nat) (R:Nat->Value) (X:Nat->Nat->ByteArray):Prop where
 tab:w.heap[tb]?=some (.cells #[.pointer (some ⟨sb,0,none⟩),.slice (some ⟨g,0,none⟩) n n] 216 (0,0))
 sum:SumB w sb k e
 om:OM w (fun b=>b=tb) B 9 67 g n R (fun _=>n) X
 sbB:sb<B
 tbB:B<=tb
namespace Tb
variable {w w':World} {k:Int} {B tb sb g n e:Nat} {R:Nat->Value} {X:Nat->Nat->ByteArray}
theorem c0 (h:Tb w k B tb sb g n e R X):w.cell? ⟨tb,0,none⟩=some (.pointer (some ⟨sb,0,none⟩)):=by have:=h.tab;simp[World.cell?,this]
theorem tbLt (h:Tb w k B tb sb g n e R X):tb<w.heap.size:=(Array.getElem?_eq_some_iff.1 h.tab).1
theorem kept {d:Nat} (h:Tb w k B tb sb g n e R X) (c:w.grownBy w' (some sb)) (j:SumB w' sb k d):Tb w' k B tb sb g n d R X :=
 ⟨by rw[c.block tb h.tbLt (by simp;have:=h.sbB;have:=h.tbB;omega)];exact h.tab,j,h.om.kept c (fun q i=>by cases i;exact h.sbB),h.sbB,h.tbB⟩
theorem below (h:Tb w k B tb sb g n e R X) (hb:Below w.heap.size w w'):Tb w' k B tb sb g n e R X:=h.kept (z0c hb _) (h.sum.kept hb)
theorem stored {i j b cap:Nat} (h:Tb w k B tb sb g n e R X) (hi:i<n) (d:j<n) (c:R i=.slice (some ⟨b,0,none⟩) n cap) (x:ByteArray) :
  Tb (w.setCell ⟨b,j,none⟩ (.string x)) k B tb sb g n e R (fun q l=>if q=i/\l=j then x else X q l):=by
 have p:=h.om.far i hi b (by rw[c];rfl);have r:=(h.om.rowLt hi b (by rw[c];rfl)).1;refine⟨?_,?_,h.om.stored hi d c x,h.sbB,h.tbB⟩
 ·rw[blk_setCell_other _ _ _ _ (by show tb≠b;exact fun e=>p.2 e.symm)];exact h.tab
 have o:=h.sum;unfold SumB at *;rw[blk_setCell_other _ _ _ _ (by show sb≠b;have:=h.sbB;omega)];exact o
end Tb
def Prog {k:KK} (e p n i j:Nat) (M:Nat->Nat->RK k) (X Y:Nat->Nat->ByteArray):Prop :=
 ∀ q l,q<n->l<n->if q<i\/(q=i/\l<j) then Is k e (Y q l) (CSR.elim p M q l) else Y q l=X q l
def MatIs {k:KK} (e n:Nat) (X:Nat->Nat->ByteArray) (M:Nat->Nat->RK k):Prop:=∀ q l,q<n->l<n->Is k e (X q l) (M q l)
theorem MatIs.mono {k:KK} {e c n:Nat} {X:Nat->Nat->ByteArray} {M:Nat->Nat->RK k} (h:MatIs e n X M) (g:c=0->e=0):MatIs c n X M:=fun q l i d=>(h q l i d).mono g
theorem Prog.start {k:KK} (e p n:Nat) (M:Nat->Nat->RK k) (X:Nat->Nat->ByteArray):Prog e p n 0 0 M X X:=fun q l d c=>by rw[if_neg (by omega)]
theorem Prog.mono {k:KK} {e d p n i j:Nat} {M:Nat->Nat->RK k} {X Y:Nat->Nat->ByteArray} (h:Prog e p n i j M X Y) (o:d=0->e=0):Prog d p n i j M X Y:=fun q l r g=>by
 have:=h q l r g
 split
 ·rename_i c;rw[if_pos c] at this;exact this.mono o
 rename_i c;rw[if_neg c] at this;exact this
theorem Prog.skip {k:KK} {e p n i j:Nat} {M:Nat->Nat->RK k} {X Y:Nat->Nat->ByteArray} (h:Prog e p n i j M X Y) (hi:i<n) (s:j<n) (c:Is k e (X i j) (CSR.elim p M i j)):Prog e p n i (j+1) M X Y:=fun q l g d=>by
 have:=h q l g d;by_cases r:q=i/\l=j
 ·obtain⟨rfl,rfl⟩:=r;rw[if_pos (by omega)];rw[if_neg (by omega)] at this;rw[this];exact c
 split
 ·rename_i o;rw[if_pos (by omega)] at this;exact this
 rename_i o;rw[if_neg (by omega)] at this;exact this
theorem Prog.row {k:KK} {e p n i:Nat} {M:Nat->Nat->RK k} {X Y:Nat->Nat->ByteArray} (h:Prog e p n i n M X Y):Prog e p n (i+1) 0 M X Y:=fun q l d c=>by
 have:=h q l d c
 split
 ·rename_i g;rw[if_pos (by omega)] at this;exact this
 rename_i g;rw[if_neg (by omega)] at this;exact this
theorem Prog.done {k:KK} {e p n:Nat} {M:Nat->Nat->RK k} {X Y:Nat->Nat->ByteArray} (h:Prog e p n n 0 M X Y):MatIs e n Y (CSR.elim p M):=fun q l d c=>by
 have:=h q l d c;rwa [if_pos (by omega)] at this
theorem Prog.at {k:KK} {e p n i j:Nat} {M:Nat->Nat->RK k} {X Y:Nat->Nat->ByteArray} (h:Prog e p n i j M X Y) (hi:i<n) (c:j<n):Y i j=X i j:=by
 have:=h i j hi c;rwa [if_neg (by omega)] at this
structure FitE {k:KK} (n p:Nat) (M:Nat->Nat->RK k):Prop where
 star:fitV (CSR.star (M p p)).1
 first:∀ i,i<n->fitV (M i p*CSR.star (M p p)).1
 second:∀ i j,i<n->j<n->fitV (M i p*CSR.star (M p p)*M p j).1
 sum:∀ i j,i<n->j<n->fitV (CSR.elim p M i j).1
end
section
open Go.RowKit Go.Deep
theorem toList_eq {a b:ByteArray} (h:(a.toList==b.toList)=true):a=b:=by
 rw[beq_iff_eq,Lib.toList_data,Lib.toList_data] at h;exact ByteArray.ext (Array.toList_inj.1 h)
end
section
open Go.RowKit Go.Deep
theorem tryL {α:Type}:(∀ (l:List α) (i:Nat) (a:α),l.toArray.setIfInBounds i a=(l.set i a).toArray)/\(∀ (a b:α) (l:List α),(a::l).set 0 b=b::l)/\(∀ (a b:α) (l:List α) (n:Nat),(a::l).set (n+1) b=a::l.set n b)/\(∀ (l:List α) (i:Nat) (h:i<l.toArray.size),l.toArray[i]=l[i]'(by simpa using h))/\(∀ (a:α) (l:List α) (i:Nat) (h:i+1<(a::l).length),(a::l)[i+1]=l[i]'(by simpa using h))/\(∀ (a:α) (l:List α) (h:0<(a::l).length),(a::l)[0]=a) :=
 ⟨fun _ _ _=>List.setIfInBounds_toArray ..,fun _ _ _=>rfl,fun _ _ _ _=>rfl,fun _ _ _=>rfl,fun _ _ _ _=>rfl,fun _ _ _=>rfl⟩
section
variable {P:Program} {ops:Array Oper} {Q:Exit->Act->World->Prop} {S:World->Prop} {s:Nat}
def z0b (P:Program) (ops:Array Oper) (Q:Exit->Act->World->Prop) (S:World->Prop) (s:Nat):Nat->Array Bool->Act->World->Prop
 | 0,listed,a,w=>Region.ready .any ops listed=[]/\Q .normal a w
 | fuel+1,listed,a,w=>(Region.ready .any ops listed=[]->Q .normal a w) /\
  ∀ i ∈ Region.ready .any ops listed,wpOp P ops Q i (fun a' w'=>(i=s\/S w')/\z0b P ops Q S s fuel (listed.setIfInBounds i true) a' w') a w
theorem z0b.any:∀ (fuel:Nat) (listed:Array Bool) (a:Act) (w:World),z0b P ops Q S s fuel listed a w->wpAny P .any ops Q fuel listed a w
 | 0,_,_,_,h=>h
 | fuel+1,_,_,_,h=>⟨h.1,fun i hi=>wpOp_mono (fun a' w' h'=>z0b.any fuel _ a' w' h'.2) (h.2 i hi)⟩
def waits (ops:Array Oper):Nat->Nat->Nat->Bool
 | 0,_,_=>false
 | f+1,s,i=>match ops[s]? with
  | some o=>o.after.any fun e=>Region.binds .any e&&(e.on==i||waits ops f e.on i)
  | none=>false
def Closed (ops:Array Oper) (listed:Array Bool):Prop:=∀ j o,listed.getD j false=true->ops[j]?=some o->∀ e ∈ o.after,Region.binds .any e=true->listed.getD e.on false=true
def x4f (ops:Array Oper) (listed:Array Bool):Bool:=(List.range ops.size).all fun j=>!listed.getD j false||match ops[j]? with
 | some o=>o.after.all fun e=>!Region.binds .any e||listed.getD e.on false
 | none=>true
theorem x1i {c:Array Bool} (h:x4f ops c=true):Closed ops c:=fun j o l g e k hb=>by
 have d:=List.all_eq_true.1 h j (List.mem_range.2 (Array.getElem?_eq_some_iff.1 g).1);rw[l,g] at d;simp only[Bool.not_true,Bool.false_or] at d;have i:=Array.all_eq_true_iff_forall_mem.1 d e k;rw[hb] at i;simpa using i
theorem Closed.set {c:Array Bool} {j:Nat} (h:Closed ops c) (s:j ∈ Region.ready .any ops c):Closed ops (c.setIfInBounds j true):=fun k o l r e p hb=>by
 by_cases g:j=k
 ·subst g;obtain⟨_,u,i,d⟩:=mem_ready.1 s;rw[r] at i;cases i;exact getD_set_true (d e p hb)
 rw[getD_set_ne false g] at l;exact getD_set_true (h k o l r e p hb)
theorem z6x {c:Array Bool} (u:Closed ops c) {i:Nat}:∀ (f s:Nat),waits ops f s i=true->(∀ o,ops[s]?=some o->∀ e ∈ o.after,Region.binds .any e=true->c.getD e.on false=true)->c.getD i false=true:=by
 intro f
 induction f with
 | zero=>intro s h;simp[waits] at h
 | succ f ih =>
  intro s h v;unfold waits at h;cases k:ops[s]? with
  | none=>rw[k] at h;simp at h
  | some o =>
   rw[k] at h;obtain⟨e,A,hb⟩:=Array.any_eq_true'.1 h;simp only[Bool.and_eq_true,Bool.or_eq_true,beq_iff_eq] at hb;have p:=v o k e A hb.1
   rcases hb.2 with d|d
   ·rw[<- d];exact p
   exact ih e.on d (fun r l z g j=>u e.on r p l z g j)
theorem z0b.first {i:Nat} {D:Oper} {v:Value} (hi:ops[i]?=some D) (hw:waits ops ops.size s i=true) (C:∀ (j:Nat) (o:Oper) cs b,ops[j]?=some o->o.op≠.select cs b)
  (hQ:∀ c a w,Q (.panic c) (a.put D.dst v) w->Q (.panic c) a w) :
  ∀ (l:Nat) (d:Array Bool) (a:Act) (w:World),
   (∀ j oj,ops[j]?=some oj->j≠i->d.getD j true=false->(∀ e ∈ oj.after,Region.binds .any e=true->e.on≠i)->D.apart ops oj=true) ->
   i ∈ Region.ready .any ops d->Closed ops d->YieldsIf P ops S D v a->S w ->
   z0b P ops Q S s l (d.setIfInBounds i true) (a.put D.dst v) w->z0b P ops Q S s (l+1) d a w:=by
 intro l
 induction l with
 | zero =>
  intro d a w _ F E T I H;refine⟨fun h=>(by rw[h] at F;cases F),fun j O=>?_⟩;by_cases g:j=i
  ·subst g;exact T.wpOp hi I ⟨.inr I,H⟩
  have:=ready_mono O g;rw[H.1] at this;cases this
 | succ l ih =>
  intro d a w r F E T I H;refine⟨fun h=>(by rw[h] at F;cases F),fun j O=>?_⟩;by_cases g:j=i
  ·subst g;exact T.wpOp hi I ⟨.inr I,H⟩
  have R:=H.2 j (ready_mono O g);obtain⟨B,oj,z,A⟩:=mem_ready.1 O;have p:d.getD i false=false:=by
   have h0:=(mem_ready.1 F).1
   rcases Nat.lt_or_ge i d.size with h' | h'
   ·simp[h'] at h0 ⊢;exact h0
   simp[Array.getElem?_eq_none h']
  have K:∀ e ∈ oj.after,Region.binds .any e=true->e.on≠i:=fun e he hb Y=>by
   have R:=A e he hb;rw[Y,p] at R;cases R
  have X:j≠s:=fun e=>by
   subst e;have:=z6x E _ _ hw (fun o' J e he hb=>by rw[z] at J;cases J;exact A e he hb);rw[p] at this;cases this
  have h2:=wpOp_putIf z (r j oj z g B K) (fun cs b=>C i D cs b hi) (fun cs b=>C j oj cs b z) hQ T R;have u:∀ k ok,ops[k]?=some ok->k≠i->(d.setIfInBounds j true).getD k true=false ->
    (∀ e ∈ ok.after,Region.binds .any e=true->e.on≠i)->D.apart ops ok=true:=fun k ok hk W G U=>by
   refine r k ok hk W ?_ U;by_cases N:j=k
   ·subst N;exact B
   rw[getD_set_ne true N] at G;exact G
  refine wpOp_mono (fun a' w' Z=>?_) h2;have L:S w':=Z.2.1.resolve_left X;refine⟨.inr L,ih (d.setIfInBounds j true) a' w' u (ready_mono F (Ne.symm g)) (E.set O) Z.1 L ?_⟩;rw[Array.setIfInBounds_comm _ _ g];exact Z.2.2
theorem z0b.take {i:Nat} {j:Oper} {v:Value} {g:Nat} {d:Array Bool} {a:Act} {w:World} (hi:ops[i]?=some j) (r:waits ops ops.size s i=true) (k:x4f ops d=true)
  (u:Region.noSelect ops=true) (z:Region.free .any ops d i=true) (o:(Region.ready .any ops d).contains i=true)
  (hQ:∀ c a w,Q (.panic c) (a.put j.dst v) w->Q (.panic c) a w) (p:S w) (l:YieldsIf P ops S j v a)
  (h:z0b P ops Q S s g (d.setIfInBounds i true) (a.put j.dst v) w):z0b P ops Q S s (g+1) d a w :=
 z0b.first hi r (Region.noSelect_spec u) hQ g d a w (Region.free_spec hi z) (by simpa using o) (x1i k) l p h
def tkB (ops:Array Oper) (s i:Nat) (listed:Array Bool):Bool:=waits ops ops.size s i&&x4f ops listed&&Region.noSelect ops&&Region.free .any ops listed i&&(Region.ready .any ops listed).contains i
theorem z0b.tk {i:Nat} {j:Oper} {v:Value} {g:Nat} {d:Array Bool} {a:Act} {w:World} (hi:ops[i]?=some j) (hb:tkB ops s i d=true) (l:S w) (k:YieldsIf P ops S j v a)
  (h:z0b P ops Q S s g (d.setIfInBounds i true) (a.put j.dst v) w) (hQ:∀ c a w,Q (.panic c) (a.put j.dst v) w->Q (.panic c) a w:=by exact fun _ _ _ h=>h):z0b P ops Q S s (g+1) d a w:=by
 unfold tkB at hb;simp only[Bool.and_eq_true] at hb;exact z0b.take hi hb.1.1.1.1 hb.1.1.1.2 hb.1.1.2 hb.1.2 hb.2 hQ l k h
theorem z0b.one {i:Nat} {o:Oper} {d:Nat} {c:Array Bool} {a:Act} {w:World} (v:ops[i]?=some o) (k:Region.ready .any ops c=[i]) (g:Region.wanted o (yielded ops a.tmps)=true)
  (h:∀ K:Act->World->Prop,Shut (∀ a w,(i=s\/S w)->z0b P ops Q S s d (c.setIfInBounds i true) a w->K a w)->Oper.wp P o a w K Q):z0b P ops Q S s (d+1) c a w:=by
 refine⟨fun p=>(by rw[k] at p;cases p),fun j l=>?_⟩;rw[k] at l;obtain rfl:j=i:=by simpa using l
 exact wpOp_step v (fun K z=>by rw[if_pos g];exact h K (fun a w u r=>z a w ⟨u,r⟩))
theorem z0b.tl (i:Nat) {oi:Oper} {v:Value} {fuel:Nat} {listed:Array Bool} {a:Act} {w:World} (hS:S w) (hy:∀ w,S w->(execOp a.eval oi).run P w=.ok (.value v) w)
  (h:z0b P ops Q S s fuel (listed.setIfInBounds i true) (a.put oi.dst v) w) (hi:ops[i]?=some oi:=by rfl) (hb:tkB ops s i listed=true:=by kernel_rfl) (hg:Region.wanted oi (yielded ops a.tmps)=true:=by kernel_rfl) (hQ:∀ c a w,Q (.panic c) (a.put oi.dst v) w->Q (.panic c) a w:=by exact fun _ _ _ h=>h):z0b P ops Q S s (fuel+1) listed a w:=z0b.tk hi hb hS (Or.inl ⟨hg,hy⟩) h hQ
theorem z0b.ts (i:Nat) {oi:Oper} {fuel:Nat} {listed:Array Bool} {a:Act} {w:World} (hS:S w)
  (h:z0b P ops Q S s fuel (listed.setIfInBounds i true) (a.put oi.dst undef) w) (hi:ops[i]?=some oi:=by rfl) (hb:tkB ops s i listed=true:=by kernel_rfl) (hg:Region.wanted oi (yielded ops a.tmps)=false:=by kernel_rfl) (hQ:∀ c a w,Q (.panic c) (a.put oi.dst undef) w->Q (.panic c) a w:=by exact fun _ _ _ h=>h):z0b P ops Q S s (fuel+1) listed a w:=z0b.tk hi hb hS (Or.inr ⟨hg,rfl⟩) h hQ
theorem z0b.on (i:Nat) {o:Oper} {fuel:Nat} {listed:Array Bool} {a:Act} {w:World} (h:∀ K:Act->World->Prop,Shut (∀ a w,(i=s\/S w)->z0b P ops Q S s fuel (listed.setIfInBounds i true) a w->K a w)->Oper.wp P o a w K Q)
  (ho:ops[i]?=some o:=by rfl) (hr:Region.ready .any ops listed=[i]:=by kernel_rfl) (hwant:Region.wanted o (yielded ops a.tmps)=true:=by rfl):z0b P ops Q S s (fuel+1) listed a w:=z0b.one ho hr hwant h
theorem z0b.done {listed:Array Bool} {a:Act} {w:World} (hr:Region.ready .any ops listed=[]) (h:Q .normal a w):∀ fuel,z0b P ops Q S s fuel listed a w
 | 0=>⟨hr,h⟩
 | _+1=>⟨fun _=>h,by rw[hr];simp⟩
theorem z0g (S:World->Prop) (s:Nat) {c:Nat} {a:Act} {w:World} (d:P.follows .mixedOrders=true)
  (h:z0b P ops Q S s ops.size (Array.replicate ops.size false) a w.drew):(Code.region c ops true).wp P Q a w :=
 wp_region_any d (z0b.any _ _ _ _ h)
end
end
section
open Go.RowKit Go.Deep
structure FitM {k:KK} (n:Nat) (M:Nat->Nat->RK k):Prop where
 steps:∀ p,p<n->FitE n p (CSR.elims M p)
 last:∀ i,i<n->fitV (CSR.elims M n i i+CSR.one).1
def Diag {k:KK} (e n c:Nat) (Z:Nat->Nat->ByteArray) (N:Nat->Nat->RK k):Prop:=∀ l j,l<n->j<n->Is k e (Z l j) (if l=j/\l<c then N l j+CSR.one else N l j)
theorem Diag.start {k:KK} {e n:Nat} {Z:Nat->Nat->ByteArray} {N:Nat->Nat->RK k} (h:MatIs e n Z N):Diag e n 0 Z N:=fun l j c d=>by rw[if_neg (by omega)];exact h l j c d
theorem Diag.done {k:KK} {e n:Nat} {Z:Nat->Nat->ByteArray} {M:Nat->Nat->RK k} (h:Diag e n n Z (CSR.elims M n)):MatIs e n Z (CSR.starM M n):=fun l j d g=>by
 have:=h l j d g;unfold CSR.starM CSR.eye;by_cases c:l=j
 ·rw[if_pos ⟨c,d⟩] at this;rw[if_pos c];exact this
 rw[if_neg (fun h=>c h.1)] at this;rw[if_neg c,CSR.a0];exact this
end
section
open Go.RowKit Go.Deep
section
variable {F:Fence} {n:Nat} {P:Program} {ops:Array Oper} {Q:Exit->Act->World->Prop} {S:World->Prop} {s:Nat}
def YF (F:Fence) (P:Program) (ops:Array Oper) (S:World->Prop) (o:Oper) (v:Value) (a:Act):Prop:=YieldsIf P ops S o v a/\∀ w f,o.about P w a.eval=some f->F.fn f
theorem YF.here {i:Nat} {o:Oper} {v:Value} {a:Act} (g:F.round=none) (hi:ops[i]?=some o) (j:YF F P ops S o v a) {K:Act->World->Prop} {w:World} (k:S w) (h:K (a.put o.dst v) w):wpOpIn F n P ops Q i K a w:=by
 have c:∀ f,o.about P w a.eval=some f->F.fn f:=fun f p=>j.2 w f p;unfold wpOpIn;simp only[hi]
 rcases j.1 with ⟨d,l⟩|⟨d,rfl⟩
 ·rw[if_pos d];unfold Oper.wpIn;refine⟨c,?_⟩;rw[g,Oper.semAt_none,l w k];exact h
 rw[if_neg (by rw[d];simp)];exact⟨c,h⟩
theorem YF.past {o:Oper} {v:Value} {a a':Act} (c:YF F P ops S o v a) (g:execOp a'.eval o=execOp a.eval o) (d:Region.wanted o (yielded ops a'.tmps)=Region.wanted o (yielded ops a.tmps)) (hb:∀ w,o.about P w a'.eval=o.about P w a.eval):YF F P ops S o v a' :=
 ⟨c.1.of_same g d,fun w f h=>c.2 w f (by rw[<- hb w];exact h)⟩
theorem YF.swap {j:Nat} {g i:Oper} {v:Value} (p:F.round=none) (J:ops[j]?=some i) (A:g.apart ops i=true) (B:∀ cs b,g.op≠.select cs b) (s:∀ cs b,i.op≠.select cs b)
  (hQ:∀ c a w,Q (.panic c) (a.put g.dst v) w->Q (.panic c) a w) {K:Act->World->Prop} {a:Act} {w:World} (E:YF F P ops S g v a) (h:wpOpIn F n P ops Q j K (a.put g.dst v) w) :
  wpOpIn F n P ops Q j (fun a' w'=>YF F P ops S g v a'/\K (a'.put g.dst v) w') a w:=by
 obtain⟨r,D,z⟩:=Oper.apart_spec A;have kp:∀ b:Act,YF F P ops S g v b->∀ u,YF F P ops S g v (b.put i.dst u):=fun b hb u=>hb.past (execOp_put g B b i.dst u z) (wanted_put g b i.dst u z) (fun w=>about_put g w b i.dst u z);have kd:∀ d,YF F P ops S g v { a with defers:=d::a.defers }:=fun d=>E.past rfl rfl (fun _=>rfl);have fin:∀ (u:Value) (w':World),K ((a.put g.dst v).put i.dst u) w'->YF F P ops S g v (a.put i.dst u)/\K ((a.put i.dst u).put g.dst v) w':=fun u w' I=>⟨kp a E u,by rw[<- Act.put_comm a v u D];exact I⟩;unfold wpOpIn at h ⊢;simp only[J] at h ⊢;rw[wanted_put i a g.dst v r,about_put i w a g.dst v r] at h;by_cases C:Region.wanted i (yielded ops a.tmps)=true
 ·rw[if_pos C] at h ⊢;unfold Oper.wpIn at h ⊢;rw[about_put i w a g.dst v r,p,Oper.semAt_none,execOp_put i s a g.dst v r] at h;rw[p,Oper.semAt_none];obtain⟨H,h⟩:=h;refine⟨H,?_⟩;cases G:(execOp a.eval i).run P w with
  | ok x w' =>
   rw[G] at h;cases x with
   | value u=>exact fin u w' h
   | skip=>exact fin undef w' h
   | defer d =>
    refine⟨kp _ (kd d) undef,?_⟩;rw[<- Act.put_comm _ v undef D,<- Act.put_defers];exact h
   | enter f args =>
    refine⟨h.1,CallsIn.mono h.2 fun e k o=>?_⟩;cases e with
    | returned u=>exact fin u k o
    | panicked c=>exact hQ _ _ _ o
    | outgrown=>exact o
   | row rr args=>exact⟨h.1,RowsIn.mono h.2 fun u k o=>fin u k o⟩
   | round l f tmps assign body =>
    refine⟨h.1,RoundIn.mono h.2 fun e k o=>?_⟩;cases e with
    | returned u=>exact fin u k o
    | panicked c=>exact hQ _ _ _ o
    | outgrown=>exact o
   | _=>exact h.elim
  | halt x w' =>
   rw[G] at h;cases x with
   | panic u=>exact hQ _ _ _ h
   | _=>exact h.elim
 rw[if_neg C] at h ⊢;exact⟨h.1,fin undef w h.2⟩
def AnyF (F:Fence) (n:Nat) (P:Program) (ops:Array Oper) (Q:Exit->Act->World->Prop) (S:World->Prop) (s:Nat):Nat->Array Bool->Act->World->Prop
 | 0,listed,a,w=>Region.ready .any ops listed=[]/\Q .normal a w
 | fuel+1,listed,a,w=>(Region.ready .any ops listed=[]->Q .normal a w) /\
  ∀ i ∈ Region.ready .any ops listed,wpOpIn F n P ops Q i (fun a' w'=>(i=s\/listed.getD s false=true\/S w')/\AnyF F n P ops Q S s fuel (listed.setIfInBounds i true) a' w') a w
theorem AnyF.any:∀ (fuel:Nat) (listed:Array Bool) (a:Act) (w:World),AnyF F n P ops Q S s fuel listed a w->wpAnyIn F n P .any ops Q fuel listed a w
 | 0,_,_,_,h=>h
 | fuel+1,_,_,_,h=>⟨h.1,fun i hi=>wpOpIn_mono (fun a' w' h'=>AnyF.any fuel _ a' w' h'.2) (h.2 i hi)⟩
theorem AnyF.first {i:Nat} {J:Oper} {v:Value} (K:F.round=none) (hi:ops[i]?=some J) (hw:waits ops ops.size s i=true) (E:∀ (j:Nat) (o:Oper) cs b,ops[j]?=some o->o.op≠.select cs b)
  (hQ:∀ c a w,Q (.panic c) (a.put J.dst v) w->Q (.panic c) a w) :
  ∀ (p:Nat) (d:Array Bool) (a:Act) (w:World),
   (∀ j oj,ops[j]?=some oj->j≠i->d.getD j true=false->(∀ e ∈ oj.after,Region.binds .any e=true->e.on≠i)->J.apart ops oj=true) ->
   i ∈ Region.ready .any ops d->Closed ops d->YF F P ops S J v a->S w ->
   AnyF F n P ops Q S s p (d.setIfInBounds i true) (a.put J.dst v) w->AnyF F n P ops Q S s (p+1) d a w:=by
 intro p
 induction p with
 | zero =>
  intro d a w _ G u Z O H;refine⟨fun h=>(by rw[h] at G;cases G),fun j X=>?_⟩;by_cases l:j=i
  ·subst l;exact Z.here K hi O ⟨.inr (.inr O),H⟩
  have:=ready_mono X l;rw[H.1] at this;cases this
 | succ p ih =>
  intro d a w z G u Z O H;refine⟨fun h=>(by rw[h] at G;cases G),fun j X=>?_⟩;by_cases l:j=i
  ·subst l;exact Z.here K hi O ⟨.inr (.inr O),H⟩
  have Y:=H.2 j (ready_mono X l);obtain⟨D,oj,B,C⟩:=mem_ready.1 X;have g:d.getD i false=false:=by
   have h0:=(mem_ready.1 G).1
   rcases Nat.lt_or_ge i d.size with h' | h'
   ·simp[h'] at h0 ⊢;exact h0
   simp[Array.getElem?_eq_none h']
  have T:∀ e ∈ oj.after,Region.binds .any e=true->e.on≠i:=fun e L hb a4=>by
   have Y:=C e L hb;rw[a4,g] at Y;cases Y
  have a3:j≠s:=fun e=>by
   subst e;have:=z6x u _ _ hw (fun o' r e L hb=>by rw[B] at r;cases r;exact C e L hb);rw[g] at this;cases this
  have h2:=YF.swap K B (z j oj B l D T) (fun cs b=>E i J cs b hi) (fun cs b=>E j oj cs b B) hQ Z Y;have A:∀ k ok,ops[k]?=some ok->k≠i->(d.setIfInBounds j true).getD k true=false ->
    (∀ e ∈ ok.after,Region.binds .any e=true->e.on≠i)->J.apart ops ok=true:=fun k ok hk a2 N a1=>by
   refine z k ok hk a2 ?_ a1;by_cases W:j=k
   ·subst W;exact D
   rw[getD_set_ne true W] at N;exact N
  refine wpOpIn_mono (fun a' w' h3=>?_) h2;have a5:i≠s:=fun e0=>by
   subst e0;obtain⟨_,a7,R,I⟩:=mem_ready.1 G;have:=z6x u _ _ hw (fun o' r e L hb=>by rw[R] at r;cases r;exact I e L hb);rw[g] at this;cases this
  have a6:(d.setIfInBounds i true).getD s false≠true:=fun e=>by
   rw[getD_set_ne false a5] at e;have:=z6x u _ _ hw (fun o' r e' L hb=>u s o' e r e' L hb);rw[g] at this;cases this
  have U:S w':=(h3.2.1.resolve_left a3).resolve_left a6;refine⟨.inr (.inr U),ih (d.setIfInBounds j true) a' w' A (ready_mono G (Ne.symm l)) (u.set X) h3.1 U ?_⟩;rw[Array.setIfInBounds_comm _ _ l];exact h3.2.2
theorem AnyF.tk {i:Nat} {j:Oper} {v:Value} {g:Nat} {d:Array Bool} {a:Act} {w:World} (l:F.round=none) (hi:ops[i]?=some j) (hb:tkB ops s i d=true) (p:S w) (o:YieldsIf P ops S j v a) (k:∀ w f,j.about P w a.eval=some f->F.fn f)
  (h:AnyF F n P ops Q S s g (d.setIfInBounds i true) (a.put j.dst v) w) (hQ:∀ c a w,Q (.panic c) (a.put j.dst v) w->Q (.panic c) a w:=by exact fun _ _ _ h=>h):AnyF F n P ops Q S s (g+1) d a w:=by
 unfold tkB at hb;simp only[Bool.and_eq_true] at hb;exact AnyF.first l hi hb.1.1.1.1 (Region.noSelect_spec hb.1.1.2) hQ g d a w (Region.free_spec hi hb.1.2) (by simpa using hb.2) (x1i hb.1.1.1.2) ⟨o,k⟩ p h
theorem AnyF.one {i:Nat} {o:Oper} {d:Nat} {c:Array Bool} {a:Act} {w:World} (v:ops[i]?=some o) (k:Region.ready .any ops c=[i]) (g:Region.wanted o (yielded ops a.tmps)=true)
  (h:∀ K:Act->World->Prop,Shut (∀ a w,(i=s\/c.getD s false=true\/S w)->AnyF F n P ops Q S s d (c.setIfInBounds i true) a w->K a w)->Oper.wpIn F n P o a w K Q):AnyF F n P ops Q S s (d+1) c a w:=by
 refine⟨fun p=>(by rw[k] at p;cases p),fun j l=>?_⟩;rw[k] at l;obtain rfl:j=i:=by simpa using l
 exact wpOpIn_step v (fun K z=>by rw[if_pos g];exact h K (fun a w u r=>z a w ⟨u,r⟩))
theorem AnyF.pass {i:Nat} {o:Oper} {d:Nat} {c:Array Bool} {a:Act} {w:World} (v:ops[i]?=some o) (l:Region.ready .any ops c=[i]) (g:Region.wanted o (yielded ops a.tmps)=false)
  (k:∀ f,o.about P w a.eval=some f->F.fn f) (u:i=s\/c.getD s false=true\/S w) (h:AnyF F n P ops Q S s d (c.setIfInBounds i true) (a.put o.dst undef) w):AnyF F n P ops Q S s (d+1) c a w:=by
 refine⟨fun r=>(by rw[l] at r;cases r),fun j p=>?_⟩;rw[l] at p;obtain rfl:j=i:=by simpa using p
 unfold wpOpIn;simp only[v];rw[if_neg (by rw[g];simp)];exact⟨k,u,h⟩
theorem AnyF.done {listed:Array Bool} {a:Act} {w:World} (hr:Region.ready .any ops listed=[]) (h:Q .normal a w):∀ fuel,AnyF F n P ops Q S s fuel listed a w
 | 0=>⟨hr,h⟩
 | _+1=>⟨fun _=>h,by rw[hr];simp⟩
theorem x0y (S:World->Prop) (s:Nat) {c:Nat} {a:Act} {w:World} (d:P.follows .mixedOrders=true)
  (h:AnyF F n P ops Q S s ops.size (Array.replicate ops.size false) a w.drew):(Code.region c ops true).wpIn F n P Q a w :=
 wpIn_region_any d (AnyF.any _ _ _ _ h)
end
end
section
open Go.RowKit Go.Deep
structure MD where
 kind:Int
 start:Int
 lead:ByteArray
 n:Nat
 fin:Nat->ByteArray
 na:Nat->Nat
 ain:Nat->Nat->Int
 aout:Nat->Nat->Int
 aw:Nat->Nat->ByteArray
 ato:Nat->Nat->Int
def ArS (z:Option Nat) (w:World) (v:Value) (D:MD) (i:Nat):Prop :=
 (D.na i=0/\∃ a cap,v=.slice a 0 cap/\cap<=maxLen)\/∃ b off cap,v=.slice (some ⟨b,off,none⟩) (D.na i) cap/\(b<w.heap.size/\some b≠z)/\D.na i<=cap/\cap<=maxLen/\∀ k,k<D.na i ->
  w.cell? ⟨b,off+k*4,none⟩=some (.int .i64 (D.ain i k))/\w.cell? ⟨b,off+k*4+1,none⟩=some (.int .i64 (D.aout i k))/\w.cell? ⟨b,off+k*4+2,none⟩=some (.string (D.aw i k))/\w.cell? ⟨b,off+k*4+3,none⟩=some (.int .i64 (D.ato i k))
def StS (z:Option Nat) (w:World) (v:Value) (D:MD):Prop :=
 (D.n=0/\∃ a cap,v=.slice a 0 cap/\cap<=maxLen)\/∃ b off cap,∃ A:Nat->Value,v=.slice (some ⟨b,off,none⟩) D.n cap/\(b<w.heap.size/\some b≠z)/\D.n<=cap/\cap<=maxLen/\∀ i,i<D.n ->
  w.cell? ⟨b,off+i*2,none⟩=some (.string (D.fin i))/\w.cell? ⟨b,off+i*2+1,none⟩=some (A i)/\ArS z w (A i) D i
theorem ArS.kept {z:Option Nat} {w l:World} {v:Value} {D:MD} {i:Nat} (h:ArS z w v D i) (d:w.grownBy l z):ArS z l v D i:=by
 rcases h with h|⟨b,j,g,r,c,u,s,p⟩
 ·exact .inl h
 refine .inr ⟨b,j,g,r,⟨Nat.lt_of_lt_of_le c.1 d.size,c.2⟩,u,s,fun k o=>?_⟩;obtain⟨c1,c2,c3,c4⟩:=p k o;exact⟨d.cell c1 c.2,d.cell c2 c.2,d.cell c3 c.2,d.cell c4 c.2⟩
theorem StS.kept {z:Option Nat} {w k:World} {v:Value} {D:MD} (h:StS z w v D) (c:w.grownBy k z):StS z k v D:=by
 rcases h with h|⟨b,j,g,A,o,d,r,p,l⟩
 ·exact .inl h
 refine .inr ⟨b,j,g,A,o,⟨Nat.lt_of_lt_of_le d.1 c.size,d.2⟩,r,p,fun i hi=>?_⟩;obtain⟨c1,c2,c3⟩:=l i hi;exact⟨c.cell c1 d.2,c.cell c2 d.2,c3.kept c⟩
theorem ArS.far {k:Nat} {z:Option Nat} {w:World} {v:Value} {D:MD} {i:Nat} (h:ArS z w v D i) (o:w.heap.size<=k):ArS (some k) w v D i:=by
 rcases h with h|⟨b,d,c,g,j,l⟩
 ·exact .inl h
 exact .inr ⟨b,d,c,g,⟨j.1,by simp;omega⟩,l⟩
theorem StS.far {k:Nat} {z:Option Nat} {w:World} {v:Value} {D:MD} (h:StS z w v D) (j:w.heap.size<=k):StS (some k) w v D:=by
 rcases h with h|⟨b,g,d,A,l,p,r,o,c⟩
 ·exact .inl h
 exact .inr ⟨b,g,d,A,l,⟨p.1,by simp;omega⟩,r,o,fun i hi=>⟨(c i hi).1,(c i hi).2.1,(c i hi).2.2.far j⟩⟩
theorem StS.open {z:Option Nat} {w:World} {v:Value} {D:MD} (h:StS z w v D):∃ a cap b off,∃ (A:Nat->Option Addr) (C B O:Nat->Nat),v=.slice a D.n cap/\(0<D.n->a=some ⟨b,off,none⟩)/\D.n<=cap/\cap<=maxLen/\(0<D.n->b<w.heap.size/\some b≠z) /\
  ∀ i,i<D.n->w.cell? ⟨b,off+i*2,none⟩=some (.string (D.fin i))/\w.cell? ⟨b,off+i*2+1,none⟩=some (.slice (A i) (D.na i) (C i))/\D.na i<=C i/\C i<=maxLen/\(0<D.na i->A i=some ⟨B i,O i,none⟩)/\(0<D.na i->B i<w.heap.size/\some (B i)≠z) /\
   ∀ k,k<D.na i->w.cell? ⟨B i,O i+k*4,none⟩=some (.int .i64 (D.ain i k))/\w.cell? ⟨B i,O i+k*4+1,none⟩=some (.int .i64 (D.aout i k))/\w.cell? ⟨B i,O i+k*4+2,none⟩=some (.string (D.aw i k))/\w.cell? ⟨B i,O i+k*4+3,none⟩=some (.int .i64 (D.ato i k)):=by
 rcases h with ⟨K,a,cap,rfl,L⟩|⟨b,off,cap,A,rfl,N,H,G,g⟩
 ·exact⟨a,cap,0,0,fun _=>none,fun _=>0,fun _=>0,fun _=>0,by rw[K],by omega,by omega,L,by omega,fun i hi=>by omega⟩
 classical
 have c:∀ i,∃ t:Option Addr × Nat × Nat × Nat,i<D.n->A i=.slice t.1 (D.na i) t.2.1/\D.na i<=t.2.1/\t.2.1<=maxLen/\(0<D.na i->t.1=some ⟨t.2.2.1,t.2.2.2,none⟩)/\(0<D.na i->t.2.2.1<w.heap.size/\some t.2.2.1≠z) /\
   ∀ k,k<D.na i->w.cell? ⟨t.2.2.1,t.2.2.2+k*4,none⟩=some (.int .i64 (D.ain i k))/\w.cell? ⟨t.2.2.1,t.2.2.2+k*4+1,none⟩=some (.int .i64 (D.aout i k))/\w.cell? ⟨t.2.2.1,t.2.2.2+k*4+2,none⟩=some (.string (D.aw i k))/\w.cell? ⟨t.2.2.1,t.2.2.2+k*4+3,none⟩=some (.int .i64 (D.ato i k)):=fun i=>by
  by_cases hi:i<D.n
  ·rcases (g i hi).2.2 with ⟨E,I,o,e,p⟩|⟨s,u,o,e,r,d,j,l⟩
   ·exact⟨(I,o,0,0),fun _=>⟨by rw[e,E],by rw[E];exact Nat.zero_le _,p,by omega,by omega,fun k P=>by omega⟩⟩
   exact⟨(some ⟨s,u,none⟩,o,s,u),fun _=>⟨e,d,j,fun _=>rfl,fun _=>r,l⟩⟩
  exact⟨(none,0,0,0),fun h=>absurd h hi⟩
 refine⟨_,cap,b,off,fun i=>(Classical.choose (c i)).1,fun i=>(Classical.choose (c i)).2.1,fun i=>(Classical.choose (c i)).2.2.1,fun i=>(Classical.choose (c i)).2.2.2,rfl,fun _=>rfl,H,G,fun _=>N,fun i hi=>?_⟩;obtain⟨r,d,j,l,F,J⟩:=Classical.choose_spec (c i) hi;exact⟨(g i hi).1,by rw[(g i hi).2.1,r],d,j,l,F,J⟩
def Ma (z:Option Nat) (w:World) (v:Value) (D:MD):Prop:=∃ sv,v=.agg #[.int .i64 D.kind,.int .i64 D.start,.string D.lead,sv]/\StS z w sv D
def z1k (D:MD):Nat->Nat
 | 0=>0
 | i+1=>z1k D i+D.na i
theorem z5a (D:MD) {i j:Nat} (h:i<=j):z1k D i<=z1k D j:=by
 induction j with
 | zero =>
      have:i=0:=by omega
      subst this;exact Nat.le_refl _
 | succ j ih =>
  by_cases e:i=j+1
  ·subst e;exact Nat.le_refl _
  have:=ih (by omega);show _<=z1k D j+D.na j;omega
structure ArcOk (D:MD) (i k:Nat):Prop where
 i0:0<=D.ain i k
 i1:D.ain i k<=500
 o0:0<=D.aout i k
 o1:D.aout i k<=500
 t0:0<=D.ato i k
 t1:D.ato i k<(D.n:Int)
 wt:z0r D.kind (D.aw i k)=true
structure VM (D:MD):Prop where
 kind:z8i D.kind=true
 n1:1<=D.n
 n2:D.n<=3000
 s0:0<=D.start
 s1:D.start<(D.n:Int)
 lead:z0r D.kind D.lead=true
 arcs:z1k D D.n<=30000
 fin:∀ i,i<D.n->D.fin i=⟨#[]⟩\/z0r D.kind (D.fin i)=true
 arc:∀ i k,i<D.n->k<D.na i->ArcOk D i k
structure MSz (D:MD):Prop where
 lead:D.lead.size<=9223372036854775807
 fin:∀ i,(D.fin i).size<=9223372036854775807
 aw:∀ i k,(D.aw i k).size<=9223372036854775807
 na:∀ i,D.na i<=140737488355328
 n:D.n<=140737488355328
 kind:-9223372036854775808<=D.kind/\D.kind<=9223372036854775807
end
section
open Go.RowKit Go.Deep
theorem z9j (s:Int) (w:World):Calls prog 122 #[.int .i64 s] w fun e w'=>e=.returned (.bool (decide (0<=s)&&decide (s<=500)))/\w=w':=by
 by_cases h:0<=s
 ·go_enter func122,ntmps122
  go_wp2;go_ret;exact⟨z0k (by simp[h]),rfl⟩
 have c:decide (0<=s)=false:=by simp;omega
 go_enter func122,ntmps122
 go_wp2;go_ret;exact⟨z0k rfl,rfl⟩
theorem z3i (w:World) (cs:Array Value) (t:TypeId) (i:Nat) (v:Value) (h:cs[i]?=some v):(w.alloc (.cells cs t)).cell? ⟨w.heap.size,i,none⟩=some v:=by
 have c:(w.alloc (.cells cs t)).heap[w.heap.size]?=some (.cells cs t (0,0)):=heap_alloc_new w _;generalize w.heap.size=b at *;generalize w.alloc (.cells cs t)=w2 at *;simp[World.cell?,c,h]
def ValidE (D:MD) (w:World) (r:Ending) (w':World):Prop:=Below w.heap.size w w'/\((VM D/\r=.returned (.bool true))\/(¬ VM D/\r=.returned (.bool false)))
def BoxM (wr:World) (mb:Nat) (D:MD) (sv:Value):Prop:=wr.heap[mb]?=some (.cells #[.int .i64 D.kind,.int .i64 D.start,.string D.lead,sv] 36 (0,0))
theorem BoxM.c0 {wr:World} {c:Nat} {D:MD} {sv:Value} (h:BoxM wr c D sv):wr.cell? ⟨c,0,none⟩=some (.int .i64 D.kind):=by unfold BoxM at h;simp[World.cell?,h]
theorem BoxM.c1 {wr:World} {c:Nat} {D:MD} {sv:Value} (h:BoxM wr c D sv):wr.cell? ⟨c,1,none⟩=some (.int .i64 D.start):=by unfold BoxM at h;simp[World.cell?,h]
theorem BoxM.c2 {wr:World} {c:Nat} {D:MD} {sv:Value} (h:BoxM wr c D sv):wr.cell? ⟨c,2,none⟩=some (.string D.lead):=by unfold BoxM at h;simp[World.cell?,h]
theorem BoxM.c3 {wr:World} {c:Nat} {D:MD} {sv:Value} (h:BoxM wr c D sv):wr.cell? ⟨c,3,none⟩=some sv:=by unfold BoxM at h;simp[World.cell?,h]
theorem BoxM.lt {wr:World} {c:Nat} {D:MD} {sv:Value} (h:BoxM wr c D sv):c<wr.heap.size:=(Array.getElem?_eq_some_iff.1 h).1
theorem BoxM.kept {wr d:World} {c:Nat} {D:MD} {sv:Value} {z:Option Nat} (h:BoxM wr c D sv) (g:wr.grownBy d z) (i:some c≠z):BoxM d c D sv:=by
 unfold BoxM;rw[g.block c h.lt i];exact h
theorem BoxM.new (w:World) (D:MD) (sv:Value):BoxM (w.alloc (.cells #[.int .i64 D.kind,.int .i64 D.start,.string D.lead,sv] 36)) w.heap.size D sv:=heap_alloc_new w _
theorem x7j {D:MD} {v:Value} (w:World) (hM:Ma none w v D) (hs:MSz D) (ht:Tab w):Calls prog 76 #[v] w (ValidE D w):=by
 obtain⟨sv,rfl,hS⟩:=hM;obtain⟨a,S,b,b4,A,C,BB,O,rfl,ha,hc,hm,hb,b7⟩:=hS.open;unfold maxLen at hm;clear hS;have F:=BoxM.new w D (.slice a D.n S);have b9:Below w.heap.size w (w.alloc (.cells #[.int .i64 D.kind,.int .i64 D.start,.string D.lead,.slice a D.n S] 36)):=(Below.refl _ _).alloc (Nat.le_refl _) _;have h6:=hs.n;obtain⟨h0,g9⟩:=hs.kind;have W:=qh hs;clear hs;have HT:=qh ht;clear ht;have HA:=qh ha;clear ha;have HB:=qh hb;clear hb;have HR:=qh b7;clear b7;have m0:=F.c0;have m1:=F.c1;have m2:=F.c2;have m3:=F.c3;have T:=qh F;clear F;have I:=qh b9;clear b9
 go_enter func76,ntmps76
 go_wp2_with fail
 all_goals first
  | (go_ret;exact⟨I.out,.inr ⟨fun v=>by have s:=v.kind;have u:=v.n1;have h3:=v.n2;have h4:=v.s0;have h5:=v.s1;unfold z8i at s;simp at s;omega,rfl⟩⟩)
  | skip
 have f2:z8i D.kind=true:=by unfold z8i;simp;omega
 obtain⟨wm,a2⟩:=exq (w.alloc (.cells #[.int .i64 D.kind,.int .i64 D.start,.string D.lead,.slice a D.n S] 36));obtain⟨mb,Z⟩:=exq (w.heap.size);have c6:1<=D.n/\D.n<=3000/\0<=D.start/\D.start<(D.n:Int):=by omega
 have f1:=qh c6;clear c6;have f7:=qh f2;clear f2;rw[<- a2,<- Z] at T;rw[<- a2] at I;rw[<- Z];rw[<- a2] at m0 m1 m2 m3;rw[<- Z] at m0 m1 m2 m3;rw[<- a2];have h7:=qh Z;clear Z;clear a2;have e8:=z5h D.kind D.lead wm W.out.lead (HT.out.below I.out (Nat.le_refl _));have b3:=qh e8;clear e8;clear m0 m1 m2 m3;cases hw:z0r D.kind D.lead
 ·rw[hw] at b3;refine b3.out.mono ?_;rintro r w1 ⟨rfl,a6⟩
  go_wp2_with fail
  go_ret;exact⟨I.out.trans (a6.mono I.out.size),.inr ⟨fun v=>by rw[v.lead] at hw;exact absurd hw (by simp),rfl⟩⟩
 rw[hw] at b3;refine b3.out.mono ?_;rintro r w1 ⟨rfl,a6⟩;have b2:=T.out.kept (z0c a6 none) (by simp);have c7:=I.out.trans (a6.mono I.out.size);clear a6;have m3:=b2.c3;have c8:=qh b2;clear b2 T;have b8:=qh c7;clear c7 I
 go_wp2_with fail
 clear m3
 go_loopw [4,50] (fun c i wr=>∃ q:Nat,q<=D.n/\i=.int .i64 (q:Int)/\c=.int .i64 (z1k D q:Nat)/\z1k D q<=30000 /\
  (∀ l,l<q->(D.fin l=⟨#[]⟩\/z0r D.kind (D.fin l)=true)/\∀ k,k<D.na l->ArcOk D l k)/\BoxM wr mb D (.slice a D.n S)/\Below w.heap.size w wr) (fun _ i _=>D.n-(intOf i).toNat)
 case atStart=>exact⟨0,Nat.zero_le _,rfl,rfl,by show 0<=30000;omega,fun l hl=>by omega,c8.out,b8.out⟩
 obtain⟨q,hq,rfl,rfl,g4,f0,d8,d5⟩:=hrel;clear c8 b8;have b5:=qh f0;clear f0;have T:=qh d8;clear d8;have b0:=qh d5;clear d5;by_cases z:q<D.n
 ·have g7:(q:Int)<(D.n:Int):=by omega
  have g6:(0:Int)<=(q:Int):=by omega
  obtain rfl:=HA.out (by omega);have d4:=(HB.out (by omega)).1;obtain⟨k1,k2,k3,k4,k5,k6,k7⟩:=HR.out q z;generalize A q=aq at k2 k5;have c0:=(b0.out.cell (p:=⟨b,b4+q*2,none⟩) d4).trans k1;have c1:=(b0.out.cell (p:=⟨b,b4+q*2+1,none⟩) d4).trans k2;unfold maxLen at k4;have mA:=fun o=>(BoxM.c0 (T.out.kept (World.grownBy_alloc wr o none) (by simp)));have mB:=fun o=>T.out.kept (World.grownBy_alloc wr o none) (by simp);have mW:=fun o=>b0.out.alloc b0.out.size o;have b6:=qh mB;clear mB;have N:=qh mW;clear mW;clear k1 k2;have e9:=qh k7;clear k7;have e4:=qh k5;clear k5;have d6:=qh k6;clear k6;have g8:=W.out.na q;by_cases hG:30000<z1k D q+D.na q
  ·have f9:(30000:Int)<(z1k D q:Nat)+(D.na q:Int):=by omega
   go_wp2_with fail
   go_ret;exact⟨N.out _,.inr ⟨fun v=>by have s:=v.arcs;have u:=z5a D (show q+1<=D.n by omega);have h3:z1k D (q+1)=z1k D q+D.na q:=rfl;omega,rfl⟩⟩
  have f9:decide ((30000:Int)<(z1k D q:Nat)+(D.na q:Int))=false:=by simp;omega
  cases hF:((D.fin q).toList==[])
  ·have f4:=fun wx hb=>z5h D.kind (D.fin q) wx (W.out.fin q) (HT.out.below (B:=w.heap.size) hb (Nat.le_refl _));have g0:=qh f4;clear f4
   go_wp2_with fail
   refine(g0.out _ (N.out _)).mono ?_;rintro r w2 ⟨rfl,a8⟩;cases d2:z0r D.kind (D.fin q)
   ·go_wp2_with fail
    go_ret;exact⟨(N.out _).trans (a8.mono (N.out _).size),.inr ⟨fun v=>by
     rcases v.fin q z with s|s
     ·rw[s] at hF;exact absurd hF (by simp)
     rw[s] at d2;exact absurd d2 (by simp),rfl⟩⟩
   have d3:=(b6.out (.cells #[.string (D.fin q),.slice aq (D.na q) (C q)] 87)).kept (z0c a8 none) (by simp);have e7:=(N.out (.cells #[.string (D.fin q),.slice aq (D.na q) (C q)] 87)).trans (a8.mono (N.out _).size);have g5:w2.cell? ⟨wr.heap.size,1,none⟩=some (.slice aq (D.na q) (C q)):=by
    rw[a8.cell (p:=⟨wr.heap.size,1,none⟩) (by simp)];exact z3i wr _ _ 1 _ rfl
   clear a8;have X:=qh d3;clear d3;have a9:=qh e7;clear e7;have c9:=qh (show D.fin q=⟨#[]⟩\/z0r D.kind (D.fin q)=true from .inr d2)
   go_wp2_with fail
   clear g5
   go_loopw [77] (fun i wr=>∃ d:Nat,d<=D.na q/\i=.int .i64 (d:Int)/\(∀ k,k<d->ArcOk D q k)/\BoxM wr mb D (.slice (some ⟨b,b4,none⟩) D.n S)/\Below w.heap.size w wr) (fun i _=>D.na q-(intOf i).toNat)
   case atStart=>exact⟨0,Nat.zero_le _,rfl,fun k hk=>by omega,X.out,a9.out⟩
   obtain⟨d,hd,rfl,U,H,L⟩:=hrel;clear X a9;have a1:=qh U;clear U;have E:=qh H;clear H;have g:=qh L;clear L;by_cases j:d<D.na q
   ·have g1:(d:Int)<(D.na q:Int):=by omega
    have d7:(0:Int)<=(d:Int):=by omega
    obtain rfl:=e4.out (by omega);have G:=(d6.out (by omega)).1;obtain⟨j0,j1,j2,j3⟩:=e9.out d j;have e0:=(g.out.cell (p:=⟨BB q,O q+d*4,none⟩) G).trans j0;have e1:=(g.out.cell (p:=⟨BB q,O q+d*4+1,none⟩) G).trans j1;have e2:=(g.out.cell (p:=⟨BB q,O q+d*4+2,none⟩) G).trans j2;have e3:=(g.out.cell (p:=⟨BB q,O q+d*4+3,none⟩) G).trans j3;clear j0 j1 j2 j3;have d0:=fun o=>(BoxM.c0 (E.out.kept (World.grownBy_alloc wr o none) (by simp)));have a7:=qh (fun o=>E.out.kept (World.grownBy_alloc wr o none) (by simp));have h:=qh (fun o=>g.out.alloc g.out.size o);have K:=fun wx hb=>z5h D.kind (D.aw q d) wx (W.out.aw q d) (HT.out.below (B:=w.heap.size) hb (Nat.le_refl _));have a4:=qh K;clear K
    go_wp2_with fail
    refine(z9j _ _).mono ?_;rintro r w' ⟨rfl,rfl⟩;cases b1:(decide (0<=D.ain q d)&&decide (D.ain q d<=500))
    ·have P:=qh b1
     go_wp2_with fail
     go_ret;exact⟨h.out _,.inr ⟨fun v=>by have s:=v.arc q d z j;have u:=P.out;rw[decide_eq_true s.i0,decide_eq_true s.i1] at u;exact absurd u (by simp),rfl⟩⟩
    have P:=qh b1
    go_wp2_with fail
    refine(z9j _ _).mono ?_;rintro r w' ⟨rfl,rfl⟩;cases a5:(decide (0<=D.aout q d)&&decide (D.aout q d<=500))
    ·have R:=qh a5
     go_wp2_with fail
     go_ret;exact⟨h.out _,.inr ⟨fun v=>by have s:=v.arc q d z j;have u:=R.out;rw[decide_eq_true s.o0,decide_eq_true s.o1] at u;exact absurd u (by simp),rfl⟩⟩
    have R:=qh a5;by_cases f8:D.ato q d<0
    ·go_wp2_with fail
     go_ret;exact⟨h.out _,.inr ⟨fun v=>by have s:=(v.arc q d z j).t0;omega,rfl⟩⟩
    have f5:decide (D.ato q d<0)=false:=by simp;omega
    by_cases g2:(D.n:Int)<=D.ato q d
    ·go_wp2_with fail
     go_ret;exact⟨h.out _,.inr ⟨fun v=>by have s:=(v.arc q d z j).t1;omega,rfl⟩⟩
    have e6:decide ((D.n:Int)<=D.ato q d)=false:=by simp;omega
    go_wp2_with fail
    refine(a4.out _ (h.out _)).mono ?_;rintro r w4 ⟨rfl,Q⟩;have Y:=(a7.out _).kept (z0c Q none) (by simp);have J:=(h.out _).trans (Q.mono (h.out _).size);clear Q d0 e0 e1 e2 e3;cases a3:z0r D.kind (D.aw q d)
    ·go_wp2_with fail
     go_ret;exact⟨J,.inr ⟨fun v=>by have s:=(v.arc q d z j).wt;rw[a3] at s;exact absurd s (by simp),rfl⟩⟩
    go_wp2_with fail
    go_roundw
    case rel =>
     refine⟨d+1,by omega,by go_num,fun k hk=>?_,Y,J⟩
     rcases Nat.lt_succ_iff_lt_or_eq.1 hk with u|u
     ·exact a1.out k u
     subst u;have h3:=P.out;have h4:=R.out;simp only[Bool.and_eq_true,decide_eq_true_eq] at h3 h4;exact⟨h3.1,h3.2,h4.1,h4.2,by omega,by omega,a3⟩
    simp[intOf];omega
   have d1:d=D.na q:=by omega
   subst d1;have d9:¬ ((D.na q:Int)<(D.na q:Int)):=by omega
   go_wp2_with fail
   go_roundw
   case rel =>
    refine⟨q+1,by omega,by go_num,rfl,by show z1k D q+D.na q<=30000;omega,fun l hl=>?_,E.out,g.out⟩
    rcases Nat.lt_succ_iff_lt_or_eq.1 hl with u|u
    ·exact b5.out l u
    subst u;exact⟨c9.out,a1.out⟩
   simp[intOf];omega
  have e5:D.fin q=⟨#[]⟩:=by rw[beq_iff_eq,Lib.toList_data] at hF;exact ByteArray.ext (Array.toList_inj.1 hF)
  have c9:=qh (show D.fin q=⟨#[]⟩\/z0r D.kind (D.fin q)=true from .inl e5);clear e5;have X:=qh (b6.out (.cells #[.string (D.fin q),.slice aq (D.na q) (C q)] 87));have a9:=qh (N.out (.cells #[.string (D.fin q),.slice aq (D.na q) (C q)] 87))
  go_wp2_with fail
  go_loopw [77] (fun i wr=>∃ d:Nat,d<=D.na q/\i=.int .i64 (d:Int)/\(∀ k,k<d->ArcOk D q k)/\BoxM wr mb D (.slice (some ⟨b,b4,none⟩) D.n S)/\Below w.heap.size w wr) (fun i _=>D.na q-(intOf i).toNat)
  case atStart=>exact⟨0,Nat.zero_le _,rfl,fun k hk=>by omega,X.out,a9.out⟩
  obtain⟨d,hd,rfl,U,H,L⟩:=hrel;clear X a9;have a1:=qh U;clear U;have E:=qh H;clear H;have g:=qh L;clear L;by_cases j:d<D.na q
  ·have g1:(d:Int)<(D.na q:Int):=by omega
   have d7:(0:Int)<=(d:Int):=by omega
   obtain rfl:=e4.out (by omega);have G:=(d6.out (by omega)).1;obtain⟨j0,j1,j2,j3⟩:=e9.out d j;have e0:=(g.out.cell (p:=⟨BB q,O q+d*4,none⟩) G).trans j0;have e1:=(g.out.cell (p:=⟨BB q,O q+d*4+1,none⟩) G).trans j1;have e2:=(g.out.cell (p:=⟨BB q,O q+d*4+2,none⟩) G).trans j2;have e3:=(g.out.cell (p:=⟨BB q,O q+d*4+3,none⟩) G).trans j3;clear j0 j1 j2 j3;have d0:=fun o=>(BoxM.c0 (E.out.kept (World.grownBy_alloc wr o none) (by simp)));have a7:=qh (fun o=>E.out.kept (World.grownBy_alloc wr o none) (by simp));have h:=qh (fun o=>g.out.alloc g.out.size o);have K:=fun wx hb=>z5h D.kind (D.aw q d) wx (W.out.aw q d) (HT.out.below (B:=w.heap.size) hb (Nat.le_refl _));have a4:=qh K;clear K
   go_wp2_with fail
   refine(z9j _ _).mono ?_;rintro r w' ⟨rfl,rfl⟩;cases b1:(decide (0<=D.ain q d)&&decide (D.ain q d<=500))
   ·have P:=qh b1
    go_wp2_with fail
    go_ret;exact⟨h.out _,.inr ⟨fun v=>by have s:=v.arc q d z j;have u:=P.out;rw[decide_eq_true s.i0,decide_eq_true s.i1] at u;exact absurd u (by simp),rfl⟩⟩
   have P:=qh b1
   go_wp2_with fail
   refine(z9j _ _).mono ?_;rintro r w' ⟨rfl,rfl⟩;cases a5:(decide (0<=D.aout q d)&&decide (D.aout q d<=500))
   ·have R:=qh a5
    go_wp2_with fail
    go_ret;exact⟨h.out _,.inr ⟨fun v=>by have s:=v.arc q d z j;have u:=R.out;rw[decide_eq_true s.o0,decide_eq_true s.o1] at u;exact absurd u (by simp),rfl⟩⟩
   have R:=qh a5;by_cases f8:D.ato q d<0
   ·go_wp2_with fail
    go_ret;exact⟨h.out _,.inr ⟨fun v=>by have s:=(v.arc q d z j).t0;omega,rfl⟩⟩
   have f5:decide (D.ato q d<0)=false:=by simp;omega
   by_cases g2:(D.n:Int)<=D.ato q d
   ·go_wp2_with fail
    go_ret;exact⟨h.out _,.inr ⟨fun v=>by have s:=(v.arc q d z j).t1;omega,rfl⟩⟩
   have e6:decide ((D.n:Int)<=D.ato q d)=false:=by simp;omega
   go_wp2_with fail
   refine(a4.out _ (h.out _)).mono ?_;rintro r w4 ⟨rfl,Q⟩;have Y:=(a7.out _).kept (z0c Q none) (by simp);have J:=(h.out _).trans (Q.mono (h.out _).size);clear Q d0 e0 e1 e2 e3;cases a3:z0r D.kind (D.aw q d)
   ·go_wp2_with fail
    go_ret;exact⟨J,.inr ⟨fun v=>by have s:=(v.arc q d z j).wt;rw[a3] at s;exact absurd s (by simp),rfl⟩⟩
   go_wp2_with fail
   go_roundw
   case rel =>
    refine⟨d+1,by omega,by go_num,fun k hk=>?_,Y,J⟩
    rcases Nat.lt_succ_iff_lt_or_eq.1 hk with u|u
    ·exact a1.out k u
    subst u;have h3:=P.out;have h4:=R.out;simp only[Bool.and_eq_true,decide_eq_true_eq] at h3 h4;exact⟨h3.1,h3.2,h4.1,h4.2,by omega,by omega,a3⟩
   simp[intOf];omega
  have d1:d=D.na q:=by omega
  subst d1;have d9:¬ ((D.na q:Int)<(D.na q:Int)):=by omega
  go_wp2_with fail
  go_roundw
  case rel =>
   refine⟨q+1,by omega,by go_num,rfl,by show z1k D q+D.na q<=30000;omega,fun l hl=>?_,E.out,g.out⟩
   rcases Nat.lt_succ_iff_lt_or_eq.1 hl with u|u
   ·exact b5.out l u
   subst u;exact⟨c9.out,a1.out⟩
  simp[intOf];omega
 have g3:q=D.n:=by omega
 subst g3;have d9:¬ ((D.n:Int)<(D.n:Int)):=by omega
 obtain⟨p1,p2,p3,p4⟩:=f1.out
 go_wp2_with fail
 go_ret;exact⟨b0.out,.inl ⟨⟨f7.out,p1,p2,p3,p4,hw,g4,fun i hi=>(b5.out i hi).1,fun i k hi hk=>(b5.out i hi).2 k hk⟩,rfl⟩⟩
end
section
open Go.RowKit Go.Deep
structure Fr (C:Nat->Prop) (w w':World):Prop where
 os:w'.os=w.os
 tape:w'.tape=w.tape
 output:w'.output=w.output
 size:w.heap.size<=w'.heap.size
 block:∀ q,q<w.heap.size->¬ C q->w'.heap[q]?=w.heap[q]?
namespace Fr
variable {C C':Nat->Prop} {w w' w2:World}
theorem refl (C:Nat->Prop) (w:World):Fr C w w:=⟨rfl,rfl,rfl,Nat.le_refl _,fun _ _ _=>rfl⟩
theorem trans (h:Fr C w w') (k:Fr C w' w2):Fr C w w2:=⟨k.os.trans h.os,k.tape.trans h.tape,k.output.trans h.output,Nat.le_trans h.size k.size,fun q d c=>(k.block q (by have:=h.size;omega) c).trans (h.block q d c)⟩
theorem mono (h:Fr C w w') (g:∀ q,q<w.heap.size->C q->C' q):Fr C' w w':=⟨h.os,h.tape,h.output,h.size,fun q c d=>h.block q c fun e=>d (g q c e)⟩
theorem of_gb {z:Option Nat} (h:w.grownBy w' z) (g:∀ q,z=some q->C q):Fr C w w':=⟨h.os,h.tape,h.output,h.size,fun q c d=>h.block q c fun e=>d (g q e.symm)⟩
theorem of_below (h:Below w.heap.size w w'):Fr C w w':=of_gb (z0c h none) (by simp)
theorem alloc (w:World) (o:Obj):Fr C w (w.alloc o):=of_gb (World.grownBy_alloc w o none) (by simp)
theorem drew (h:Fr C w w'):Fr C w w'.drew:=⟨h.os,h.tape,h.output,h.size,h.block⟩
theorem set (h:Fr C w w') {p:Addr} (g:C p.block\/w.heap.size<=p.block) (v:Value):Fr C w (w'.setCell p v) :=
 ⟨h.os,h.tape,h.output,by rw[nblk_setCell];exact h.size,fun q d c=>(blk_setCell_other _ _ _ _ (by
  rcases g with e|e
  ·intro e2;subst e2;exact c e
  omega)).trans (h.block q d c)⟩
theorem below (h:Fr C w w') {B:Nat} (d:B<=w.heap.size) (c:∀ q,C q->B<=q):Below B w w':=⟨h.os,h.tape,h.output,h.size,fun q g=>h.block q (by omega) fun e=>by have:=c q e;omega⟩
theorem gb {z:Option Nat} (h:Fr (fun q=>z=some q) w w'):w.grownBy w' z:=⟨h.os,h.tape,h.output,h.size,fun q c d=>h.block q c fun e=>d e.symm⟩
theorem cell (h:Fr C w w') {p:Addr} {v:Value} (c:w.cell? p=some v) (g:¬ C p.block):w'.cell? p=some v:=by
 have d:p.block<w.heap.size:=by
  unfold World.cell? at c;cases hb:w.heap[p.block]? with
  | none=>simp[hb] at c
  | some o=>exact(Array.getElem?_eq_some_iff.1 hb).1
 unfold World.cell? at c ⊢;rw[h.block _ d g];exact c
theorem row (h:Fr C w w') {g:Nat} {t:TypeId} {n:Nat} {F:Nat->Value} (c:w.rowIs g t n F) (d:¬ C g):w'.rowIs g t n F:=c.of_block (h.block g c.lt d)
end Fr
theorem x0t {w:World} {p:Addr} {q:Nat} (h:q≠p.block) (v:Value):(w.setCell p v).heap[q]?=w.heap[q]?:=blk_setCell_other _ _ _ _ h
def y0h (k:Int) (a b:ByteArray) (e:Nat):ByteArray × Nat:=if a=⟨#[]⟩\/e≠0 then (b,e) else z1r k a b
def z4n (k:Int) (a b:ByteArray) (e:Nat):ByteArray × Nat:=if e≠0 then (a,e) else z0y k a b
abbrev WS:=(Nat->ByteArray) × Nat
def updS (l:Nat->ByteArray) (t:Nat) (s:ByteArray):Nat->ByteArray:=fun j=>if j=t then s else l j
def arcC (D:MD) (sel:Int->Int->Bool) (v:Nat->ByteArray) (q k:Nat) (s:WS):WS :=
 if sel (D.ain q k) (D.aout q k)=true then
  (updS s.1 (D.ato q k).toNat (y0h D.kind (s.1 (D.ato q k).toNat) (z4n D.kind (v q) (D.aw q k) s.2).1 (z4n D.kind (v q) (D.aw q k) s.2).2).1,(y0h D.kind (s.1 (D.ato q k).toNat) (z4n D.kind (v q) (D.aw q k) s.2).1 (z4n D.kind (v q) (D.aw q k) s.2).2).2)
 else s
def y2t (D:MD) (sel:Int->Int->Bool) (v:Nat->ByteArray) (q:Nat):Nat->WS->WS
 | 0,s=>s
 | k+1,s=>arcC D sel v q k (y2t D sel v q k s)
def rowC (D:MD) (sel:Int->Int->Bool) (v:Nat->ByteArray) (q:Nat) (s:WS):WS:=if v q=⟨#[]⟩ then s else y2t D sel v q (D.na q) s
def z6z (D:MD) (sel:Int->Int->Bool) (v:Nat->ByteArray):Nat->WS->WS
 | 0,s=>s
 | q+1,s=>rowC D sel v q (z6z D sel v q s)
def endC (D:MD) (v:Nat->ByteArray):Nat->ByteArray × Nat->ByteArray × Nat
 | 0,s=>s
 | q+1,s=>if v q=⟨#[]⟩\/D.fin q=⟨#[]⟩ then endC D v q s else y0h D.kind (endC D v q s).1 (z4n D.kind (v q) (D.fin q) (endC D v q s).2).1 (z4n D.kind (v q) (D.fin q) (endC D v q s).2).2
def finC (D:MD) (v:Nat->ByteArray) (e:Nat):ByteArray × Nat:=if (endC D v D.n (z2b D.kind,e)).2≠0 then (⟨#[]⟩,(endC D v D.n (z2b D.kind,e)).2) else ((endC D v D.n (z2b D.kind,e)).1,0)
def y7n (D:MD):Nat->ByteArray:=fun q=>if q=D.start.toNat then D.lead else ⟨#[]⟩
def z3j:Nat->ByteArray:=fun _=>⟨#[]⟩
def smS (s:ByteArray):Prop:=s.size<=9223372036854775807
theorem v2b (v:V):smS (limV v).1:=by
 unfold smS;cases v with
 | inf=>decide
 | low=>decide
 | fin q=>exact Nat.le_trans (x1x q) (by omega)
theorem x0c (k:Int) (a b:ByteArray):smS (z1r k a b).1:=by
 unfold z1r;split
 ·exact v2b _
 show (str []).size<=_;decide
theorem x0q (k:Int) (a b:ByteArray):smS (z0y k a b).1:=by
 unfold z0y;split
 ·exact v2b _
 show (str []).size<=_;decide
theorem x6p {k:Int} {a b:ByteArray} {e:Nat} (hb:smS b):smS (y0h k a b e).1:=by
 unfold y0h;split
 ·exact hb
 exact x0c _ _ _
theorem y2d {k:Int} {a b:ByteArray} {e:Nat} (c:smS a):smS (z4n k a b e).1:=by
 unfold z4n;split
 ·exact c
 exact x0q _ _ _
theorem u0v {D:MD} {sel:Int->Int->Bool} {v:Nat->ByteArray} {q k:Nat} {s:WS} (d:smS (v q)) (c:∀ j,smS (s.1 j)) (j:Nat):smS ((arcC D sel v q k s).1 j):=by
 unfold arcC;split
 ·show smS (updS s.1 _ _ j);unfold updS;split
  ·exact x6p (y2d d)
  exact c j
 exact c j
theorem y8x {D:MD} {sel:Int->Int->Bool} {v:Nat->ByteArray} {q:Nat} (hv:smS (v q)):∀ (k:Nat) {s:WS},(∀ j,smS (s.1 j))->∀ j,smS ((y2t D sel v q k s).1 j)
 | 0,_,hs=>hs
 | k+1,_,hs=>fun j=>u0v hv (y8x hv k hs) j
theorem z8g {D:MD} {sel:Int->Int->Bool} {v:Nat->ByteArray} (hv:∀ j,smS (v j)):∀ (q:Nat) {s:WS},(∀ j,smS (s.1 j))->∀ j,smS ((z6z D sel v q s).1 j)
 | 0,_,hs=>hs
 | q+1,s,hs=>fun j=>by
  show smS ((rowC D sel v q (z6z D sel v q s)).1 j);unfold rowC;split
  ·exact z8g hv q hs j
  exact y8x (hv q) _ (z8g hv q hs) j
theorem v4k {D:MD} {v:Nat->ByteArray} (hv:∀ j,smS (v j)):∀ (q:Nat) {s:ByteArray × Nat},smS s.1->smS (endC D v q s).1
 | 0,_,hs=>hs
 | q+1,s,hs=>by
  unfold endC;split
  ·exact v4k hv q hs
  exact x6p (y2d (hv q))
end
section
open Go.RowKit Go.Deep
def Scl (w:World) (cb:Nat) (D:MD) (sv star:Value) (e:Nat):Prop:=w.heap[cb]?=some (.cells #[.int .i64 D.kind,.int .i64 D.start,.string D.lead,sv,star,.int .i64 (e:Int)] 127 (0,0))
namespace Scl
variable {w w':World} {cb:Nat} {D:MD} {sv star:Value} {e:Nat}
theorem lt (h:Scl w cb D sv star e):cb<w.heap.size:=(Array.getElem?_eq_some_iff.1 h).1
theorem c0 (h:Scl w cb D sv star e):w.cell? ⟨cb,0,none⟩=some (.int .i64 D.kind):=by unfold Scl at h;simp[World.cell?,h]
theorem c1 (h:Scl w cb D sv star e):w.cell? ⟨cb,1,none⟩=some (.int .i64 D.start):=by unfold Scl at h;simp[World.cell?,h]
theorem c2 (h:Scl w cb D sv star e):w.cell? ⟨cb,2,none⟩=some (.string D.lead):=by unfold Scl at h;simp[World.cell?,h]
theorem c3 (h:Scl w cb D sv star e):w.cell? ⟨cb,3,none⟩=some sv:=by unfold Scl at h;simp[World.cell?,h]
theorem c4 (h:Scl w cb D sv star e):w.cell? ⟨cb,4,none⟩=some star:=by unfold Scl at h;simp[World.cell?,h]
theorem c5 (h:Scl w cb D sv star e):w.cell? ⟨cb,5,none⟩=some (.int .i64 (e:Int)):=by unfold Scl at h;simp[World.cell?,h]
theorem fz (h:Scl w cb D sv star e) (j:Nat):w.frozen? ⟨cb,j,none⟩=false:=by unfold Scl at h;simp[World.frozen?,h]
theorem setE (h:Scl w cb D sv star e) (c:Nat):Scl (w.setCell ⟨cb,5,none⟩ (.int .i64 (c:Int))) cb D sv star c:=by
 unfold Scl at h ⊢;simp[World.setCell,Array.getElem?_modify,h]
theorem kept {C:Nat->Prop} (h:Scl w cb D sv star e) (d:Fr C w w') (c:¬ C cb):Scl w' cb D sv star e:=by unfold Scl;rw[d.block cb h.lt c];exact h
end Scl
theorem z4j {a:ByteArray} (h:(a.toList==[])=true):a=⟨#[]⟩:=toList_eq (b:=⟨#[]⟩) (by rw[Lib.toList_data ⟨#[]⟩];exact h)
theorem x1b {d:Nat} {D:MD} {sv star:Value} {e:Nat} (a b:ByteArray) (w:World) (o:Scl w d D sv star e) (E:smS a) (hb:smS b) (A:Tab w) :
  Calls prog 126 #[.pointer (some ⟨d,0,none⟩),.string a,.string b] w (fun r w'=>r=.returned (.string (y0h D.kind a b e).1)/\Scl w' d D sv star (y0h D.kind a b e).2/\Fr (fun q=>q=d) w w'):=by
 have H:=o.c0;have I:=o.c5;have l:=qh o;clear o;cases p:(a.toList==[])
 ·have i:a≠⟨#[]⟩:=fun e=>by rw[e] at p;simp at p
  by_cases z:e=0
  ·subst z;have j:y0h D.kind a b 0=z1r D.kind a b:=by unfold y0h;rw[if_neg (by intro h;rcases h with h|h;exact i h;exact h rfl)]
   rw[j];have v:=x0m D.kind a b w E hb A;have G:=qh v;clear v A
   go_enter func126,ntmps126
   go_wp2_with fail
   refine G.out.mono ?_;rintro r B ⟨rfl,g⟩;have k:Fr (fun q=>q=d) w B:=Fr.of_below g;have c:Scl B d D sv star 0:=by unfold Scl;rw[g.block d l.out.lt];exact l.out
   have J:=c.fz 5;have C:=c.c5;have s:=qh c;clear c g;have u:=qh k;clear k
   go_wp2_with fail
   go_ret;exact⟨rfl,s.out.setE _,u.out.set (.inl rfl) _⟩
  have j:y0h D.kind a b e=(b,e):=by unfold y0h;rw[if_pos (.inr z)]
  have F:¬ (e:Int)=0:=by omega
  rw[j]
  go_enter func126,ntmps126
  go_wp2_with fail
  go_ret;exact⟨rfl,l.out,Fr.refl _ _⟩
 have i:a=⟨#[]⟩:=z4j p;have j:y0h D.kind a b e=(b,e):=by unfold y0h;rw[if_pos (.inl i)]
 rw[j]
 go_enter func126,ntmps126
 go_wp2_with fail
 go_ret;exact⟨rfl,l.out,Fr.refl _ _⟩
theorem y7r {d:Nat} {D:MD} {sv star:Value} {e:Nat} (a b:ByteArray) (w:World) (i:Scl w d D sv star e) (A:smS a) (hb:smS b) (u:Tab w) :
  Calls prog 128 #[.pointer (some ⟨d,0,none⟩),.string a,.string b] w (fun r w'=>r=.returned (.string (z4n D.kind a b e).1)/\Scl w' d D sv star (z4n D.kind a b e).2/\Fr (fun q=>q=d) w w'):=by
 have E:=i.c0;have F:=i.c5;have l:=qh i;clear i;by_cases s:e=0
 ·subst s;have k:z4n D.kind a b 0=z0y D.kind a b:=by unfold z4n;rw[if_neg (by simp)]
  rw[k];have p:=y9p D.kind a b w A hb u;have C:=qh p;clear p u
  go_enter func128,ntmps128
  go_wp2_with fail
  refine C.out.mono ?_;rintro r v ⟨rfl,g⟩;have h:Fr (fun q=>q=d) w v:=Fr.of_below g;have c:Scl v d D sv star 0:=by unfold Scl;rw[g.block d l.out.lt];exact l.out
  have G:=c.fz 5;have z:=c.c5;have j:=qh c;clear c g;have o:=qh h;clear h
  go_wp2_with fail
  go_ret;exact⟨rfl,j.out.setE _,o.out.set (.inl rfl) _⟩
 have k:z4n D.kind a b e=(a,e):=by unfold z4n;rw[if_pos s]
 have B:¬ (e:Int)=0:=by omega
 rw[k]
 go_enter func128,ntmps128
 go_wp2_with fail
 go_ret;exact⟨rfl,l.out,Fr.refl _ _⟩
theorem v1g:(prog.info? 9).map (fun i=>(i.zero,i.size,i.bytes))=some (some (.string ⟨#[]⟩),1,16):=by kernel_rfl
theorem y5k {c:Nat} {D:MD} {a:Option Addr} {cap:Nat} {star:Value} {e:Nat} (w:World) (d:Scl w c D (.slice a D.n cap) star e) (h:1<=D.n) (hn:D.n<=3000) :
  Calls prog 82 #[.pointer (some ⟨c,0,none⟩)] w (fun r w'=>r=.returned (.slice (some ⟨w.heap.size,0,none⟩) D.n D.n)/\w'.rowIs w.heap.size 9 D.n (fun q=>.string (z3j q))/\Fr (fun _=>False) w w'/\w'.heap.size=w.heap.size+1):=by
 have i:=d.c3;have g:=run_make_row' (P:=prog) 124 9 (.string ⟨#[]⟩) 16 underlying124 v1g rfl .i64 .i64 D.n (by omega) (by omega)
 go_enter func82,ntmps82
 go_wp2_with fail
 go_ret;exact⟨rfl,World.rowIs_made w (.string ⟨#[]⟩) D.n 9,Fr.alloc _ _,by simp⟩
end
section
open Go.RowKit Go.Deep
theorem x8a {z:Nat} {D:MD} {a:Option Addr} {cap:Nat} {star:Value} {e:Nat} (w:World) (G:Scl w z D (.slice a D.n cap) star e) (Y:1<=D.n) (hn:D.n<=3000) (I:0<=D.start) (o:D.start<(D.n:Int)) :
  Calls prog 80 #[.pointer (some ⟨z,0,none⟩)] w (fun r w'=>r=.returned (.slice (some ⟨w.heap.size,0,none⟩) D.n D.n)/\w'.rowIs w.heap.size 9 D.n (fun q=>.string (y7n D q))/\Fr (fun _=>False) w w'):=by
 obtain⟨l,u⟩:∃ l:Nat,D.start=(l:Int):=⟨D.start.toNat,by omega⟩;have B:l<D.n:=by omega
 have T:(l:Int)<(D.n:Int):=by omega
 have L:(0:Int)<=(l:Int):=by omega
 have J:=qh (y5k w G Y hn);have Z:=qh G;clear G;have A:y7n D=fun q=>if q=l then D.lead else ⟨#[]⟩:=by funext q;unfold y7n;rw[u,Int.toNat_natCast]
 have P:=qh A;clear A;have O:=qh u;clear u I o
 go_enter func80,ntmps80
 go_wp2_with fail
 refine J.out.mono ?_;rintro r Q ⟨rfl,k,N,R⟩;have o:=Z.out.kept N (fun h=>h);obtain⟨g,F⟩:=exq (w.heap.size);rw[<- F] at k;rw[<- F];have H:w.heap.size<=g:=by omega
 have W:=o.c1;rw[O.out] at W;have X:=o.c2;have gl:=k.cell B;have fl:=k.frozen l;have C:=qh k;clear k;have HF:=qh N;clear N o R;have S:=qh F;clear F
 go_wp2_with fail
 have c:Q.cell? ⟨z,1,none⟩=some (.int .i64 (l:Int))/\Q.cell? ⟨z,2,none⟩=some (.string D.lead):=⟨W,X⟩;refine z0g (fun E=>E.cell? ⟨z,1,none⟩=some (.int .i64 (l:Int))/\E.cell? ⟨z,2,none⟩=some (.string D.lead)) 12 (by kernel_rfl) ?_;refine z0b.tl 0 c (v:=?ym) ?xc ?xs
 case xc=>rintro s ⟨d,i⟩;go_simp;try with_reducible rfl
 refine z0b.tl 1 c (v:=?yh) ?xh ?xu
 case xh=>rintro s ⟨d,i⟩;go_simp;try with_reducible rfl
 refine z0b.tl 2 c (v:=?yg) ?xj ?xz
 case xj=>rintro s ⟨d,i⟩;go_simp;try with_reducible rfl
 refine z0b.tl 3 c (v:=?yd) ?xo ?xv
 case xo=>rintro s ⟨d,i⟩;go_simp;try with_reducible rfl
 refine z0b.tl 4 c (v:=?yi) ?xf ?xx
 case xf=>rintro s ⟨d,i⟩;go_simp;try with_reducible rfl
 refine z0b.tl 5 c (v:=?yc) ?xm ?xr
 case xm=>rintro s ⟨d,i⟩;go_simp;try with_reducible rfl
 refine z0b.tl 6 c (v:=?yl) ?xi ?xw
 case xi=>rintro s ⟨d,i⟩;go_simp;try with_reducible rfl
 refine z0b.tl 7 c (v:=?yk) ?xk ?xp
 case xk=>rintro s ⟨d,i⟩;go_simp;try with_reducible rfl
 refine z0b.tl 8 c (v:=?yf) ?xd ?xt
 case xd=>rintro s ⟨d,i⟩;go_simp;try with_reducible rfl
 refine z0b.tl 9 c (v:=?yj) ?xn ?xq
 case xn=>rintro s ⟨d,i⟩;go_simp;try with_reducible rfl
 refine z0b.tl 10 c (v:=?yb) ?xb ?xl
 case xb=>rintro s ⟨d,i⟩;go_simp;try with_reducible rfl
 refine z0b.tl 11 c (v:=?ya) ?xa ?xg
 case xa=>rintro s ⟨d,i⟩;go_simp;try with_reducible rfl
 try simp only[Act.put,tryL]
 refine z0b.on 12 fun K U=>?_;go_simp;refine U.out _ _ (.inl rfl) (z0b.done (by kernel_rfl) ?_ _);clear U K
 go_wp2_with fail
 go_ret;refine⟨Eq.trans (b:=Ending.returned (.slice (some ⟨g,0,none⟩) D.n D.n)) rfl (by rw[S.out]),?_,(HF.out.set (p:=⟨g,l,none⟩) (.inr H) _).drew⟩;rw[P.out,<- S.out];exact(show (Q.setCell ⟨g,l,none⟩ (.string D.lead)).rowIs g 9 D.n _ from C.out.set l _).congr (fun j _=>by
  show _=Value.string (if j=l then D.lead else ⟨#[]⟩)
  by_cases e:j=l
  ·rw[if_pos e,if_pos e]
  rw[if_neg e,if_neg e];rfl)
def TstA (nf:FuncId) (cap:Array Value) (sel:Int->Int->Bool) (P:World->Prop):Prop :=
 (∀ args w,(callFunc nf args).run prog w=.ok (.enter nf args) w)/\∀ w,P w->∀ (i o:Int) (s:ByteArray) (t:Int),Calls prog nf (#[.agg #[.int .i64 i,.int .i64 o,.string s,.int .i64 t]]++cap) w (fun r w'=>r=.returned (.bool (sel i o))/\Below w.heap.size w w')
def StpE (cb lb:Nat) (D:MD) (sv star:Value) (s:WS) (w:World) (r:Ending) (w':World):Prop :=
 r=.returned (.tuple #[])/\w'.rowIs lb 9 D.n (fun j=>.string (s.1 j))/\Scl w' cb D sv star s.2/\Fr (fun q=>q=cb\/q=lb) w w'
theorem y4w {E lb vb nf:Nat} {cap:Array Value} {D:MD} {sv star:Value} {e:Nat} {l v:Nat->ByteArray} {sel:Int->Int->Bool} {P:World->Prop} (w0 w:World) (hv:VM D) (hD:StS none w0 sv D) (j4:Below w0.heap.size w0 w) (ht:Tab w0)
  (hs:Scl w E D sv star e) (hl:w.rowIs lb 9 D.n (fun j=>.string (l j))) (g0:w.rowIs vb 9 D.n (fun j=>.string (v j))) (g7:w0.heap.size<=E) (i8:w0.heap.size<=lb) (g6:E≠lb) (j7:vb≠lb) (g3:vb≠E)
  (h9:∀ j,smS (l j)) (h5:∀ j,smS (v j)) (h6:∀ i k,smS (D.aw i k)) (hP:P w) (i5:∀ wa wb,P wa->Fr (fun q=>q=E\/q=lb) wa wb->P wb) (j3:TstA nf cap sel P) :
  Calls prog 84 #[.pointer (some ⟨E,0,none⟩),.slice (some ⟨lb,0,none⟩) D.n D.n,.slice (some ⟨vb,0,none⟩) D.n D.n,.func (.func nf) #[] cap] w (StpE E lb D sv star (z6z D sel v D.n (l,e)) w):=by
 obtain⟨a,cp,b,a4,A,C,BB,O,rfl,ha,hc,hm,hb,a9⟩:=hD.open;unfold maxLen at hm;obtain⟨p6,i6⟩:=j3;obtain⟨n,hn⟩:=exq (D.n);have o9:n<=3000:=by rw[hn];exact hv.n2
 have o8:1<=n:=by rw[hn];exact hv.n1
 rw[<- hn] at ha hc hb a9 hl g0 hs ⊢;have HN:=qh hn;clear hn;have HV:=qh hv;clear hv;have HA:=qh ha;clear ha;have HB:=qh hb;clear hb;have HR:=qh a9;clear a9 hD;have HT:=qh i6;clear i6;have i9:=qh ht;clear ht;have HP:=qh hP;clear hP;have n7:=qh i5;clear i5;have R:=qh j4;clear j4;have HS:=qh hs;clear hs;have HL:=qh hl;clear hl;have m7:=qh g0;clear g0;have n0:=qh h9;clear h9;have d7:=qh h5;clear h5;have n5:=qh h6;clear h6;have c8:=qh g6;clear g6;have l8:=qh j7;clear j7;have m8:=qh g3;clear g3;have d2:=qh g7;clear g7;have d6:=qh i8;clear i8;obtain rfl:=HA.out (by omega)
 go_enter func84,ntmps84
 go_wp2_with fail
 go_loopw [14] (fun i wr=>∃ q:Nat,q<=n/\i=.int .i64 (q:Int)/\wr.rowIs lb 9 n (fun j=>.string ((z6z D sel v q (l,e)).1 j))/\Scl wr E D (.slice (some ⟨b,a4,none⟩) n cp) star (z6z D sel v q (l,e)).2/\Fr (fun q=>q=E\/q=lb) w wr) (fun i _=>n-(intOf i).toNat)
 case atStart=>exact⟨0,Nat.zero_le _,rfl,HL.out,HS.out,Fr.refl _ _⟩
 obtain⟨q,hq,rfl,h0,g4,h7⟩:=hrel;clear HL HS;have Y:=qh h0;clear h0;have W:=qh g4;clear g4;have Z:=qh h7;clear h7;by_cases i4:q<n
 ·have o6:(q:Int)<(n:Int):=by omega
  have o4:(0:Int)<=(q:Int):=by omega
  have cv:=Z.out.cell (m7.out.cell i4) (p:=⟨vb,q,none⟩) (by
   rintro(h|h)
   ·exact m8.out h
   exact l8.out h)
  have j8:=qh (R.out.trans (Z.out.below R.out.size (fun k hk=>by rcases hk with rfl|rfl;exact d2.out;exact d6.out)))
  have k0:=(HB.out (by omega)).1;obtain⟨k1,k2,k3,k4,k5,k6,k7⟩:=HR.out q i4;obtain⟨aq,i7⟩:=exq (A q);rw[<- i7] at k2 k5;clear i7;have c1:=(j8.out.cell (p:=⟨b,a4+q*2+1,none⟩) k0).trans k2;have m3:=W.out.c3;clear k1 k2;unfold maxLen at k4;have o3:D.na q<=30000:=by have h1:=Nat.le_trans (z5a D (show q+1<=D.n by have:=HN.out;omega)) HV.out.arcs;have h2:z1k D (q+1)=z1k D q+D.na q:=rfl;omega
  have n3:=qh k7;clear k7;have l7:=qh k5;clear k5;have k9:=qh k6;clear k6;obtain⟨vq,a3⟩:=exq (v q);rw[<- a3] at cv;cases hE:(vq.toList==[])
  ·have b1:v q≠⟨#[]⟩:=fun e=>by rw[a3,e] at hE;simp at hE
   have b9:z6z D sel v (q+1) (l,e)=y2t D sel v q (D.na q) (z6z D sel v q (l,e)):=by
    show rowC D sel v q _=_;unfold rowC;rw[if_neg b1]
   have a2:=qh b9;clear b9 b1;have g2:=qh a3;clear a3;obtain⟨s0,f0⟩:=exq (z6z D sel v q (l,e));have d9:∀ j,smS (s0.1 j):=by rw[f0];exact z8g d7.out q n0.out
   rw[<- f0] at Y W a2;have l0:=qh d9;clear d9 f0
   go_wp2_with fail
   clear cv c1 m3
   go_loopw [31] (fun i wr=>∃ d:Nat,d<=D.na q/\i=.int .i64 (d:Int)/\wr.rowIs lb 9 n (fun j=>.string ((y2t D sel v q d s0).1 j))/\Scl wr E D (.slice (some ⟨b,a4,none⟩) n cp) star (y2t D sel v q d s0).2/\Fr (fun q=>q=E\/q=lb) w wr) (fun i _=>D.na q-(intOf i).toNat)
   case atStart=>exact⟨0,Nat.zero_le _,rfl,Y.out,W.out,Z.out⟩
   obtain⟨d,hd,rfl,J,N,d8⟩:=hrel;clear Y W Z j8;have I:=qh J;clear J;have F:=qh N;clear N;have Q:=qh d8;clear d8;by_cases j2:d<D.na q
   ·have p0:(d:Int)<(D.na q:Int):=by omega
    have n9:(0:Int)<=(d:Int):=by omega
    have L:=qh (R.out.trans (Q.out.below R.out.size (fun k hk=>by rcases hk with rfl|rfl;exact d2.out;exact d6.out)))
    have d1:=(k9.out (by omega)).1;obtain⟨t0,t1,t2,t3⟩:=n3.out d j2;obtain rfl:=l7.out (by omega);have c0:=(L.out.cell (p:=⟨BB q,O q+d*4,none⟩) d1).trans t0;have c1:=(L.out.cell (p:=⟨BB q,O q+d*4+1,none⟩) d1).trans t1;have c2:=(L.out.cell (p:=⟨BB q,O q+d*4+2,none⟩) d1).trans t2;have c3:=(L.out.cell (p:=⟨BB q,O q+d*4+3,none⟩) d1).trans t3;clear t0 t1 t2 t3;have f4:=HV.out.arc q d (by have:=HN.out;omega) j2;obtain⟨g,f1⟩:∃ g:Nat,D.ato q d=(g:Int):=⟨(D.ato q d).toNat,by have:=f4.t0;omega⟩;have g9:g<n:=by have:=f4.t1;have:=HN.out;omega
    rw[f1] at c3;have l5:=qh f1;clear f1 f4;obtain⟨T,d3⟩:=exq (wr.heap.size);obtain⟨wa,b2⟩:=exq (wr.alloc (.cells #[.int .i64 (D.ain q d),.int .i64 (D.aout q d),.string (D.aw q d),.int .i64 (g:Int)] 83));have f5:Fr (fun q=>q=E\/q=lb) wr wa:=by rw[b2];exact Fr.alloc _ _
    have e5:wa.heap[T]?=some (.cells #[.int .i64 (D.ain q d),.int .i64 (D.aout q d),.string (D.aw q d),.int .i64 (g:Int)] 83 (0,0)):=by rw[b2,d3];exact heap_alloc_new wr _
    have c6:=HT.out wa (n7.out _ _ HP.out (Q.out.trans f5)) (D.ain q d) (D.aout q d) (D.aw q d) (g:Int);have o5:T≠lb:=by have:=I.out.lt;omega
    have b8:T≠E:=by have:=F.out.lt;omega
    have HC:=qh c6;clear c6;have d5:=qh f5;clear f5;have b3:=qh e5;clear e5
    go_wp2_with fail
    rw[<- b2,<- d3];clear c0 c1 c2 c3;have o7:=qh d3;clear d3;have f2:=qh b2;clear b2;refine HC.out.mono ?_;rintro r w1 ⟨rfl,b7⟩;have h3:Fr (fun q=>q=E\/q=lb) w w1:=(Q.out.trans d5.out).trans (Fr.of_below b7);have b5:=(b7.block T (lt_of_block b3.out)).trans b3.out;have e9:Scl w1 E D (.slice (some ⟨b,a4,none⟩) n cp) star (y2t D sel v q d s0).2:=by
     unfold Scl;rw[b7.block E (by have:=F.out.lt;have:=d5.out.size;omega),f2.out,blk_alloc_lt _ _ _ F.out.lt];exact F.out
    have e3:w1.rowIs lb 9 n (fun j=>.string ((y2t D sel v q d s0).1 j)):=I.out.of_block ((b7.block lb (by have:=I.out.lt;have:=d5.out.size;omega)).trans (by rw[f2.out,blk_alloc_lt _ _ _ I.out.lt]));have a5:=qh h3;clear h3 b7 d5 b3 HC F I Q L f2;have u:=qh b5;clear b5;have S:=qh e9;clear e9;have H:=qh e3;clear e3;have e1:∀ j,smS ((y2t D sel v q d s0).1 j):=y8x (d7.out q) d l0.out;have e6:=qh e1;clear e1;cases c9:sel (D.ain q d) (D.aout q d)
    ·have a7:y2t D sel v q (d+1) s0=y2t D sel v q d s0:=by show arcC D sel v q d _=_;unfold arcC;rw[if_neg (by rw[c9];simp)]
     have c7:=qh a7;clear a7 c9
     go_wp2_with fail
     go_roundw
     case rel=>exact⟨d+1,by omega,by go_num,by rw[c7.out];exact H.out,by rw[c7.out];exact S.out,a5.out⟩
     simp[intOf];omega
    obtain⟨s1,f9⟩:=exq (y2t D sel v q d s0);obtain⟨tp,d0⟩:=exq (z4n D.kind vq (D.aw q d) s1.2);obtain⟨zp,g1⟩:=exq (y0h D.kind (s1.1 g) tp.1 tp.2);have a7:y2t D sel v q (d+1) s0=(updS s1.1 g zp.1,zp.2):=by
     show arcC D sel v q d _=_;unfold arcC;rw[if_pos c9,<- f9,l5.out,Int.toNat_natCast,<- g2.out,<- d0,<- g1]
    rw[<- f9] at S H e6;have c7:=qh a7;clear a7 c9 f9;have e0:smS tp.1:=by rw[d0];exact y2d (by rw[g2.out];exact d7.out q)
    have e8:smS vq:=by rw[g2.out];exact d7.out q
    have j9:=qh e0;clear e0;have i3:=qh e8;clear e8;have l4:=qh d0;clear d0;have n6:=qh g1;clear g1;have o2:(g:Int)<(n:Int):=by omega
    have l9:(0:Int)<=(g:Int):=by omega
    obtain⟨B,G⟩:=exq (w1.drew);have a5:Hid (Fr (fun q=>q=E\/q=lb) w B):=qh (by rw[G];exact a5.out.drew);have u:Hid (B.heap[T]?=some (.cells #[.int .i64 (D.ain q d),.int .i64 (D.aout q d),.string (D.aw q d),.int .i64 (g:Int)] 83 (0,0))):=qh (by rw[G];exact u.out);have S:Hid (Scl B E D (.slice (some ⟨b,a4,none⟩) n cp) star s1.2):=qh (by rw[G];exact S.out);have H:Hid (B.rowIs lb 9 n (fun j=>.string (s1.1 j))):=qh (by rw[G];exact H.out);have a8:Tab B:=i9.out.below (R.out.trans (a5.out.below R.out.size (fun k hk=>by rcases hk with rfl|rfl;exact d2.out;exact d6.out))) (Nat.le_refl _)
    have c:B.cell? ⟨T,3,none⟩=some (.int .i64 (g:Int))/\B.cell? ⟨T,2,none⟩=some (.string (D.aw q d))/\B.cell? ⟨lb,g,none⟩=some (.string (s1.1 g)) :=
     ⟨by simp[World.cell?,u.out],by simp[World.cell?,u.out],H.out.cell g9⟩
    have h4:=qh (y7r vq (D.aw q d) B S.out i3.out (n5.out q d) a8);rw[<- l4.out] at h4;clear a8
    go_wp2_with fail
    refine z0g (fun f8=>f8.cell? ⟨T,3,none⟩=some (.int .i64 (g:Int))/\f8.cell? ⟨T,2,none⟩=some (.string (D.aw q d))/\f8.cell? ⟨lb,g,none⟩=some (.string (s1.1 g))) 16 (by kernel_rfl) ?_;rw[<- G];clear G;refine z0b.tl 0 c (v:=?ys) ?xf ?xu
    case xf=>rintro X ⟨o,s,z⟩;go_simp;try with_reducible rfl
    refine z0b.tl 1 c (v:=?ym) ?xo ?xw
    case xo=>rintro X ⟨o,s,z⟩;go_simp;try with_reducible rfl
    refine z0b.tl 2 c (v:=?yl) ?xp ?yd
    case xp=>rintro X ⟨o,s,z⟩;go_simp;try with_reducible rfl
    refine z0b.tl 3 c (v:=?yk) ?xn ?yb
    case xn=>rintro X ⟨o,s,z⟩;go_simp;try with_reducible rfl
    refine z0b.tl 4 c (v:=?yn) ?xh ?yc
    case xh=>rintro X ⟨o,s,z⟩;go_simp;try with_reducible rfl
    refine z0b.tl 5 c (v:=?yj) ?xs ?xt
    case xs=>rintro X ⟨o,s,z⟩;go_simp;try with_reducible rfl
    refine z0b.tl 6 c (v:=?yr) ?xj ?xx
    case xj=>rintro X ⟨o,s,z⟩;go_simp;try with_reducible rfl
    refine z0b.tl 7 c (v:=?yq) ?xr ?xz
    case xr=>rintro X ⟨o,s,z⟩;go_simp;try with_reducible rfl
    refine z0b.tl 8 c (v:=?yp) ?xg ?xv
    case xg=>rintro X ⟨o,s,z⟩;go_simp;try with_reducible rfl
    refine z0b.tl 9 c (v:=?yo) ?xm ?ya
    case xm=>rintro X ⟨o,s,z⟩;go_simp;try with_reducible rfl
    refine z0b.tl 10 c (v:=?yh) ?xb ?xl
    case xb=>rintro X ⟨o,s,z⟩;go_simp;try with_reducible rfl
    refine z0b.tl 11 c (v:=?yf) ?xa ?xi
    case xa=>rintro X ⟨o,s,z⟩;go_simp;try with_reducible rfl
    refine z0b.tl 12 c (v:=?yg) ?xc ?xk
    case xc=>rintro X ⟨o,s,z⟩;go_simp;try with_reducible rfl
    try simp only[Act.put,tryL]
    refine z0b.on 13 fun K hK=>?_;go_simp;refine h4.out.mono ?_;rintro r w2 ⟨rfl,N,U⟩;have d4:w2.cell? ⟨T,3,none⟩=some (.int .i64 (g:Int))/\w2.cell? ⟨T,2,none⟩=some (.string (D.aw q d))/\w2.cell? ⟨lb,g,none⟩=some (.string (s1.1 g)) :=
     ⟨U.cell c.1 b8,U.cell c.2.1 b8,U.cell c.2.2 (fun e=>c8.out e.symm)⟩
    have b6:Fr (fun q=>q=E\/q=lb) w w2:=a5.out.trans (U.mono (fun _ _ e=>.inl e));have J:=U.row H.out (fun e=>c8.out e.symm);have a6:=(U.block T (lt_of_block u.out) b8).trans u.out;have b4:Tab w2:=i9.out.below (R.out.trans (b6.below R.out.size (fun k hk=>by rcases hk with rfl|rfl;exact d2.out;exact d6.out))) (Nat.le_refl _)
    have j5:=qh (x1b (s1.1 g) tp.1 w2 N (e6.out g) j9.out b4);rw[<- n6.out] at j5;have m4:=qh b6;clear b6 U;have j0:=qh J;clear J;have m9:=qh a6;clear a6 N b4;refine hK.out _ _ (.inr d4) ?_;clear hK K
    try simp only[Act.put,tryL]
    refine z0b.on 14 fun K hK=>?_;go_simp;refine j5.out.mono ?_;rintro r w3 ⟨rfl,e4,a1⟩;have f7:w3.cell? ⟨T,3,none⟩=some (.int .i64 (g:Int))/\w3.cell? ⟨T,2,none⟩=some (.string (D.aw q d))/\w3.cell? ⟨lb,g,none⟩=some (.string (s1.1 g)) :=
     ⟨a1.cell d4.1 b8,a1.cell d4.2.1 b8,a1.cell d4.2.2 (fun e=>c8.out e.symm)⟩
    have b0:=a1.row j0.out (fun e=>c8.out e.symm);have e7:Fr (fun q=>q=E\/q=lb) w w3:=m4.out.trans (a1.mono (fun _ _ e=>.inl e));have fl:=b0.frozen g;have m5:=qh e7;clear e7 a1;have g8:=qh b0;clear b0;have g5:=qh e4;clear e4;refine hK.out _ _ (.inr f7) ?_;clear hK K
    try simp only[Act.put,tryL]
    refine z0b.tl 15 f7 (v:=?yi) ?xd ?xq
    case xd=>rintro X ⟨o,s,z⟩;go_simp;try with_reducible rfl
    try simp only[Act.put,tryL]
    have gl:=f7.2.2;refine z0b.on 16 fun K hK=>?_;go_simp;refine hK.out _ _ (.inl rfl) (z0b.done (by kernel_rfl) ?_ _);clear hK K
    go_wp2_with fail
    go_roundw
    case rel =>
     refine⟨d+1,by omega,by go_num,?_,?_,m5.out.set (.inl (.inr rfl)) _⟩
     ·rw[c7.out];exact(g8.out.set g _).congr (fun j _=>by
       show _=Value.string (updS s1.1 g zp.1 j);unfold updS;by_cases e:j=g
       ·rw[if_pos e,if_pos e]
       rw[if_neg e,if_neg e])
     rw[c7.out];unfold Scl;rw[x0t (show E≠lb from c8.out)];exact g5.out
    simp[intOf];omega
   have j6:d=D.na q:=by omega
   have l6:¬ ((d:Int)<(D.na q:Int)):=by omega
   have i2:=qh j6;clear j6
   go_wp2_with fail
   go_roundw
   case rel=>exact⟨q+1,by omega,by go_num,by rw[a2.out,<- i2.out];exact I.out,by rw[a2.out,<- i2.out];exact F.out,Q.out⟩
   simp[intOf];omega
  have b1:v q=⟨#[]⟩:=by rw[<- a3];exact z4j hE
  have b9:z6z D sel v (q+1) (l,e)=z6z D sel v q (l,e):=by
   show rowC D sel v q _=_;unfold rowC;rw[if_pos b1]
  have a2:=qh b9;clear b9 b1 a3
  go_wp2_with fail
  go_roundw
  case rel=>exact⟨q+1,by omega,by go_num,by rw[a2.out];exact Y.out,by rw[a2.out];exact W.out,Z.out⟩
  simp[intOf];omega
 have j1:q=n:=by omega
 have l6:¬ ((q:Int)<(n:Int)):=by omega
 have h8:=qh j1;clear j1
 go_wp2_with fail
 go_end0
 exact⟨rfl,by rw[<- HN.out];rw[h8.out] at Y;exact Y.out,by rw[h8.out] at W;exact W.out,Z.out⟩
end
end Go.Proofs.YtjekapjbigfkbaaGreatDoor
