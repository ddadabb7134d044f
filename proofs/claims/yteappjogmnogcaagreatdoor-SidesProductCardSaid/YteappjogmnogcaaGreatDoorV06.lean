/- Parts of a proof: C2 CelO C7 WgL C3 CloC. -/
import Derived.Test.YteappjogmnogcaaGreatDoorV00
import Derived.Deep.OwnRows
import Derived.Deep.AppendLies
import Derived.Test.YteappjogmnogcaaGreatDoorV05
import Derived.Deep.QuietTactic
import Derived.BigQuiet
import Derived.Deep.RegionHeld2
import Derived.Deep.LoopGhost
import Derived.Deep.Light
import Derived.OwnWalk
import Derived.Deep.RegionLaw
namespace Go.Proofs.YteappjogmnogcaaGreatDoor
set_option maxRecDepth 100000
set_option linter.unusedSimpArgs false
set_option linter.unusedVariables false
set_option linter.unusedSectionVars false
set_option maxHeartbeats 16000000
open Go Tryz
section
open Go.RowKit Go.Deep
theorem x2i (w:World) (z:Option Nat):w.grownBy w z:=⟨rfl,rfl,rfl,nlr,fun _ _ _=>rfl⟩
theorem z1g {a b c:World} {z:Option Nat} (h:a.grownBy b z) (k:b.grownBy c z):a.grownBy c z :=
 ⟨k.os.trans h.os,k.tape.trans h.tape,k.output.trans h.output,Nat.le_trans h.size k.size,fun q d g=>(k.block q (Nat.lt_of_lt_of_le d h.size) g).trans (h.block q d g)⟩
theorem z0b {w c:World} (h:Below w.heap.size w c) (z:Option Nat):w.grownBy c z:=⟨h.os,h.tape,h.output,h.size,fun q d _=>h.block q d⟩
theorem y1g {w c:World} (h:w.grownBy c none):Below w.heap.size w c:=⟨h.os,h.tape,h.output,h.size,fun q d=>h.block q d (by simp)⟩
theorem v4f {a w:World} {z:Option Nat} (h:a.grownBy w z) (n:Nat):a.grownBy (w.drewN n) z:=z1g h ⟨rfl,rfl,rfl,nlr,fun _ _ _=>rfl⟩
theorem u4w {a w:World} {z:Option Nat} (h:a.grownBy w z) {p:Addr} (g:some p.block=z\/a.heap.size<=p.block) (v:Value):a.grownBy (w.setCell p v) z :=
 ⟨h.os,h.tape,h.output,by rw[nblk_setCell];exact h.size,fun q d c=>by
  rw[blk_setCell_other _ _ _ _ (by rcases g with e|e;exact fun i=>c (by rw[i,e]);omega)];exact h.block q d c⟩
def Rd (z:Option Nat) (w:World) (v:Value) (n:Nat) (f:Nat->Value):Prop :=
 (n=0/\∃ a cap,v=.slice a 0 cap/\cap<=maxLen)\/∃ b off cap,v=.slice (some ⟨b,off,none⟩) n cap/\(b<w.heap.size/\some b≠z)/\n<=cap/\cap<=maxLen/\∀ i,i<n->w.cell? ⟨b,off+i,none⟩=some (f i)
theorem Rd.kept {z:Option Nat} {w j:World} {v:Value} {n:Nat} {f:Nat->Value} (h:Rd z w v n f) (hb:w.grownBy j z):Rd z j v n f:=by
 rcases h with h|⟨b,c,g,m,d,o,k,l⟩
 ·exact .inl h
 exact .inr ⟨b,c,g,m,⟨Nat.lt_of_lt_of_le d.1 hb.size,d.2⟩,o,k,fun i hi=>(hb.cell_far ⟨b,c+i,none⟩ d.1 d.2).trans (l i hi)⟩
theorem Rd.open {z:Option Nat} {w:World} {v:Value} {n:Nat} {f:Nat->Value} (h:Rd z w v n f):∃ a cap b off,v=.slice a n cap/\(0<n->a=some ⟨b,off,none⟩)/\n<=cap/\cap<=maxLen /\
  (0<n->b<w.heap.size/\some b≠z)/\∀ i,i<n->w.cell? ⟨b,off+i,none⟩=some (f i):=by
 rcases h with ⟨rfl,a,cap,c,d⟩|⟨b,off,cap,c,l,k,g,j⟩
 ·exact⟨a,cap,0,0,c,by simp,by simp,d,by simp,by simp⟩
 exact⟨_,cap,b,off,c,fun _=>rfl,k,g,fun _=>l,j⟩
theorem Rd.congr {z:Option Nat} {w:World} {v:Value} {n:Nat} {f g:Nat->Value} (h:Rd z w v n f) (e:∀ i,i<n->f i=g i):Rd z w v n g:=by
 rcases h with h|⟨b,c,d,l,o,m,j,k⟩
 ·exact .inl h
 exact .inr ⟨b,c,d,l,o,m,j,fun i hi=>by rw[k i hi,e i hi]⟩
theorem Rd.shape {z:Option Nat} {w:World} {v:Value} {n:Nat} {f:Nat->Value} (h:Rd z w v n f):∃ a cap,v=.slice a n cap:=by
 obtain⟨a,cap,_,_,c,_⟩:=h.open;exact⟨a,cap,c⟩
theorem Rd.any {z:Option Nat} {w:World} {v:Value} {n:Nat} {f:Nat->Value} (h:Rd z w v n f):Rd none w v n f:=by
 rcases h with h|⟨b,c,d,g,j,i⟩
 ·exact .inl h
 exact .inr ⟨b,c,d,g,⟨j.1,by simp⟩,i⟩
theorem Rd.far {k:Nat} {z:Option Nat} {w:World} {v:Value} {n:Nat} {f:Nat->Value} (h:Rd z w v n f) (l:w.heap.size<=k):Rd (some k) w v n f:=by
 rcases h with h|⟨b,c,d,g,j,i⟩
 ·exact .inl h
 exact .inr ⟨b,c,d,g,⟨j.1,by simp;omega⟩,i⟩
def Ss (z:Option Nat) (w:World) (v:Value) (n:Nat) (X:Nat->ByteArray):Prop:=Rd z w v n fun i=>.string (X i)
def Mt (z:Option Nat) (w:World) (v:Value) (n:Nat) (L:Nat->Nat) (X:Nat->Nat->ByteArray):Prop:=∃ R,Rd z w v n R/\∀ i,i<n->Ss z w (R i) (L i) (X i)
section
variable {z:Option Nat} {w w':World} {v:Value} {n:Nat} {L L':Nat->Nat} {X X':Nat->Nat->ByteArray}
theorem Mt.kept (h:Mt z w v n L X) (hb:w.grownBy w' z):Mt z w' v n L X:=by
 obtain⟨R,d,c⟩:=h;exact⟨R,d.kept hb,fun i hi=>Rd.kept (c i hi) hb⟩
theorem Mt.any (h:Mt z w v n L X):Mt none w v n L X:=by
 obtain⟨R,d,c⟩:=h;exact⟨R,d.any,fun i hi=>Rd.any (c i hi)⟩
theorem Mt.far {k:Nat} (h:Mt z w v n L X) (c:w.heap.size<=k):Mt (some k) w v n L X:=by
 obtain⟨R,g,d⟩:=h;exact⟨R,g.far c,fun i hi=>Rd.far (d i hi) c⟩
theorem Mt.congr (h:Mt z w v n L X) (l:∀ i,i<n->L i=L' i) (d:∀ i j,i<n->j<L i->X i j=X' i j):Mt z w v n L' X':=by
 obtain⟨R,k,g⟩:=h;exact⟨R,k,fun i hi=>by rw[<- l i hi];exact Rd.congr (g i hi) fun j c=>by rw[d i j hi c]⟩
theorem Mt.shape (h:Mt z w v n L X):∃ a cap,v=.slice a n cap:=by
 obtain⟨R,c,_⟩:=h;exact c.shape
theorem Mt.open (h:Mt z w v n L X) :
  ∃ a cap b off,∃ (A:Nat->Option Addr) (C B O:Nat->Nat),v=.slice a n cap/\(0<n->a=some ⟨b,off,none⟩)/\n<=cap/\cap<=maxLen/\(0<n->b<w.heap.size/\some b≠z) /\
   ∀ i,i<n->w.cell? ⟨b,off+i,none⟩=some (.slice (A i) (L i) (C i))/\L i<=C i/\C i<=maxLen/\(0<L i->A i=some ⟨B i,O i,none⟩)/\(0<L i->B i<w.heap.size/\some (B i)≠z)/\Ss z w (.slice (A i) (L i) (C i)) (L i) (X i) /\
    ∀ j,j<L i->w.cell? ⟨B i,O i+j,none⟩=some (.string (X i j)):=by
 obtain⟨R,D,s⟩:=h;obtain⟨a,cap,b,off,K,u,H,G,hb,d⟩:=D.open
 classical
 have c:∀ i,∃ t:Option Addr × Nat × Nat × Nat,i<n->R i=.slice t.1 (L i) t.2.1/\(0<L i->t.1=some ⟨t.2.2.1,t.2.2.2,none⟩)/\L i<=t.2.1/\t.2.1<=maxLen/\(0<L i->t.2.2.1<w.heap.size/\some t.2.2.1≠z) /\
   ∀ j,j<L i->w.cell? ⟨t.2.2.1,t.2.2.2+j,none⟩=some (.string (X i j)):=fun i=>by
  by_cases hi:i<n
  ·obtain⟨J,F,E,I,g,o,p,m,k,l⟩:=Rd.open (s i hi);exact⟨(J,F,E,I),fun _=>⟨g,o,p,m,k,l⟩⟩
  exact⟨(none,0,0,0),fun h=>absurd h hi⟩
 refine⟨a,cap,b,off,fun i=>(Classical.choose (c i)).1,fun i=>(Classical.choose (c i)).2.1,fun i=>(Classical.choose (c i)).2.2.1,fun i=>(Classical.choose (c i)).2.2.2,K,u,H,G,hb,fun i hi=>?_⟩;obtain⟨g,o,p,m,k,l⟩:=Classical.choose_spec (c i) hi;refine⟨by rw[d i hi,g],p,m,o,k,?_,l⟩;rw[<- g];exact s i hi
end
def strs (n:Nat) (X:Nat->ByteArray):List Value:=(List.range n).map fun j=>.string (X j)
theorem z5h (n:Nat) (X:Nat->ByteArray):(strs n X).length=n:=by simp[strs]
theorem z4t (n:Nat) (X:Nat->ByteArray) (i:Nat) (h:i<n):(strs n X)[i]?=some (.string (X i)):=by simp[strs,h]
theorem y5u {n:Nat} {X Y:Nat->ByteArray} (h:∀ i,i<n->X i=Y i):strs n X=strs n Y:=by
 unfold strs;exact List.map_congr_left fun i hi=>by rw[h i (List.mem_range.1 hi)]
def OwS (w:World) (B:Nat) (e:TypeId) (v:Value) (n:Nat) (X:Nat->ByteArray):Prop:=w.ownsRow B e 1 v n (strs n X)
theorem OwS.nil (w:World) (B:Nat) (e:TypeId) (X:Nat->ByteArray):OwS w B e (.slice none 0 0) 0 X:=World.ownsRow_nil w B e 1
theorem OwS.congr {w:World} {B:Nat} {e:TypeId} {v:Value} {n:Nat} {X Y:Nat->ByteArray} (h:OwS w B e v n X) (c:∀ i,i<n->X i=Y i):OwS w B e v n Y:=by
 unfold OwS;rw[<- y5u c];exact h
theorem OwS.ss {w:World} {B:Nat} {e:TypeId} {v:Value} {n:Nat} {X:Nat->ByteArray} {z:Option Nat} (h:OwS w B e v n X) (j:∀ k,z=some k->k<B):Ss z w v n X:=by
 rcases h.2 with ⟨c,s⟩|⟨g,d,l,c,C,m,p,o,u,A⟩
 ·exact .inl ⟨s,none,0,c,Nat.zero_le _⟩
 refine .inr ⟨g,0,d,c,⟨(Array.getElem?_eq_some_iff.1 m).1,fun e=>by have:=j g e.symm;omega⟩,p,o,fun i hi=>?_⟩;subst c;have:=World.ownsRow.cells h (g:=g) rfl i _ (z4t n X i hi);rw[Addr.add_lit] at this;exact this
theorem OwS.kept {w c:World} {B:Nat} {e:TypeId} {v:Value} {n:Nat} {X:Nat->ByteArray} {z:Option Nat} (h:OwS w B e v n X) (hb:w.grownBy c z) (d:∀ k,z=some k->k<B):OwS c B e v n X :=
 World.ownsRow.kept h hb (by
  cases g:v.ownBlock with
  | none=>exact .inl rfl
  | some k=>exact .inr (fun e=>by have:=(World.ownsRow.lt h k g).1;have:=d k e.symm;omega))
theorem x0a (n:Nat) (X:Nat->ByteArray):∀ u ∈ strs n X,u.oneCell'=true:=by
 intro u c;simp[strs] at c;obtain⟨_,_,rfl⟩:=c;rfl
theorem OwS.set {w:World} {B:Nat} {e:TypeId} {g n cap:Nat} {X:Nat->ByteArray} (h:OwS w B e (.slice (some ⟨g,0,none⟩) n cap) n X) {i:Nat} (hi:i<n) (x:ByteArray) :
  OwS (w.setCell ⟨g,i,none⟩ (.string x)) B e (.slice (some ⟨g,0,none⟩) n cap) n (fun j=>if j=i then x else X j):=by
 refine⟨by rw[z5h,Nat.mul_one],?_⟩
 rcases h.2 with ⟨k,_⟩|⟨C,p,d,k,z,l,s,u,m,o⟩
 ·cases k
 cases k;refine .inr ⟨g,cap,d.setIfInBounds i (.string x),rfl,z,by simp[World.setCell,Array.getElem?_modify,l],s,u,by simpa using m,?_⟩;rw[Nat.mul_one] at m o ⊢;refine List.ext_getElem? fun j=>?_;by_cases c:j<n
 ·rw[z4t _ _ _ c,List.getElem?_take_of_lt c,Array.getElem?_toList,Array.getElem?_setIfInBounds];by_cases e:i=j
  ·subst e;rw[if_pos rfl,if_pos (by omega),if_pos rfl]
  rw[if_neg e,if_neg (fun h=>e h.symm)];have:=z4t n X j c;rw[<- o,List.getElem?_take_of_lt c,Array.getElem?_toList] at this;exact this
 rw[List.getElem?_eq_none (by rw[List.length_take];omega),List.getElem?_eq_none (by rw[z5h];omega)]
structure Gr (B:Nat) (z:Option Nat) (w w':World):Prop where
 os:w'.os=w.os
 tape:w'.tape=w.tape
 output:w'.output=w.output
 size:w.heap.size<=w'.heap.size
 block:∀ q,q<B->some q≠z->w'.heap[q]?=w.heap[q]?
namespace Gr
variable {B:Nat} {z:Option Nat} {w w' w2:World}
theorem refl (B:Nat) (z:Option Nat) (w:World):Gr B z w w:=⟨rfl,rfl,rfl,nlr,fun _ _ _=>rfl⟩
theorem trans (h:Gr B z w w') (k:Gr B z w' w2):Gr B z w w2:=⟨k.os.trans h.os,k.tape.trans h.tape,k.output.trans h.output,Nat.le_trans h.size k.size,fun q c d=>(k.block q c d).trans (h.block q c d)⟩
theorem of (h:w.grownBy w' z) (g:B<=w.heap.size):Gr B z w w':=⟨h.os,h.tape,h.output,h.size,fun q d c=>h.block q (by omega) c⟩
theorem gb (h:Gr w.heap.size z w w'):w.grownBy w' z:=⟨h.os,h.tape,h.output,h.size,h.block⟩
theorem more {r:Option Nat} (h:Gr B z w w') (c:w'.grownBy w2 r) (l:B<=w'.heap.size) (i:∀ k,r=some k->z=some k\/B<=k):Gr B z w w2 :=
 h.trans ⟨c.os,c.tape,c.output,c.size,fun q j g=>c.block q (by omega) (fun e=>by
  rcases i q e.symm with d|d
  ·exact g d.symm
  omega)⟩
theorem set (h:Gr B z w w') {p:Addr} (d:some p.block=z\/B<=p.block) (v:Value):Gr B z w (w'.setCell p v) :=
 h.trans ⟨rfl,rfl,rfl,by rw[nblk_setCell];exact nlr,fun q i c=>blk_setCell_other _ _ _ _ (by
  rcases d with e|e
  ·intro g;exact c (by rw[g,e])
  omega)⟩
theorem alloc (h:Gr B z w w') (c:B<=w'.heap.size) (o:Obj):Gr B z w (w'.alloc o):=h.more (World.grownBy_alloc w' o z) c (fun _ e=>.inl e)
theorem drewN (h:Gr B z w w') (n:Nat):Gr B z w (w'.drewN n):=h.trans ⟨rfl,rfl,rfl,nlr,fun _ _ _=>rfl⟩
end Gr
structure OM (w:World) (Z:Nat->Prop) (B:Nat) (eR eT:TypeId) (g n:Nat) (R:Nat->Value) (L:Nat->Nat) (X:Nat->Nat->ByteArray):Prop where
 top:w.rowIs g eT n R
 base:B<=g
 zg:¬ Z g
 zlt:∀ b,Z b->b<w.heap.size
 row:∀ i,i<n->OwS w B eR (R i) (L i) (X i)
 far:∀ i,i<n->∀ b,(R i).ownBlock=some b->b≠g/\¬ Z b
 apart:∀ i j,i<n->j<n->i≠j->∀ b,(R i).ownBlock=some b->(R j).ownBlock≠some b
namespace OM
variable {w w':World} {Z:Nat->Prop} {B:Nat} {eR eT:TypeId} {g n:Nat} {R:Nat->Value} {L:Nat->Nat} {X:Nat->Nat->ByteArray}
theorem kept {z:Option Nat} (h:OM w Z B eR eT g n R L X) (hb:w.grownBy w' z) (d:∀ k,z=some k->k<B):OM w' Z B eR eT g n R L X :=
 ⟨h.top.of_block (hb.block g h.top.lt (fun e=>by have:=d g e.symm;have:=h.base;omega)),h.base,h.zg,fun b c=>Nat.lt_of_lt_of_le (h.zlt b c) hb.size,fun i hi=>(h.row i hi).kept hb d,h.far,h.apart⟩
theorem congr {c:Nat->Nat->ByteArray} (h:OM w Z B eR eT g n R L X) (k:∀ i j,i<n->j<L i->X i j=c i j):OM w Z B eR eT g n R L c :=
 ⟨h.top,h.base,h.zg,h.zlt,fun i hi=>(h.row i hi).congr fun j d=>k i j hi d,h.far,h.apart⟩
theorem congrL {L':Nat->Nat} (h:OM w Z B eR eT g n R L X) (c:∀ i,i<n->L i=L' i):OM w Z B eR eT g n R L' X :=
 ⟨h.top,h.base,h.zg,h.zlt,fun i hi=>by rw[<- c i hi];exact h.row i hi,h.far,h.apart⟩
theorem made (w:World) (Z:Nat->Prop) (d:∀ b,Z b->b<w.heap.size) (B:Nat) (k:B<=w.heap.size) (g c:TypeId) (n:Nat) (X:Nat->Nat->ByteArray) :
  OM (w.alloc (.cells (madeCells #[.slice none 0 0] n) c)) Z B g c w.heap.size n (fun _=>.slice none 0 0) (fun _=>0) X :=
 ⟨World.rowIs_made w _ n c,k,fun h=>Nat.lt_irrefl _ (d _ h),fun b h=>by have:=d b h;simp;omega,fun i _=>OwS.nil _ _ _ _,fun i _ b h=>by simp[Value.ownBlock] at h,fun i j _ _ _ b h=>by simp[Value.ownBlock] at h⟩
theorem fence (h:OM w Z B eR eT g n R L X) (o:Obj):OM (w.alloc o) (fun b=>b=w.heap.size) B eR eT g n R L X:=by
 have c:=h.kept (World.grownBy_alloc w o none) (by simp);exact⟨c.top,c.base,fun e=>by have:=h.top.lt;omega,fun b e=>by subst e;simp,c.row,fun i hi b hb=>⟨(h.far i hi b hb).1,fun e=>by have:=(World.ownsRow.lt (h.row i hi) b hb).2;omega⟩,c.apart⟩
theorem cell (h:OM w Z B eR eT g n R L X) {i:Nat} (hi:i<n):w.cell? ⟨g,i,none⟩=some (R i):=h.top.cell hi
theorem frozen (h:OM w Z B eR eT g n R L X) (i:Nat):w.frozen? ⟨g,i,none⟩=false:=h.top.frozen i
theorem lt (h:OM w Z B eR eT g n R L X):g<w.heap.size:=h.top.lt
theorem rowLt (h:OM w Z B eR eT g n R L X) {i:Nat} (hi:i<n):∀ k,(R i).ownBlock=some k->B<=k/\k<w.heap.size:=World.ownsRow.lt (h.row i hi)
theorem form (h:OM w Z B eR eT g n R L X) {i:Nat} (hi:i<n) (z:0<L i):∃ b cap,R i=.slice (some ⟨b,0,none⟩) (L i) cap/\B<=b/\b<w.heap.size/\b≠g/\¬ Z b/\L i<=cap/\cap<=maxLen /\
  (∀ j,w.frozen? ⟨b,j,none⟩=false)/\∀ j,j<L i->w.cell? ⟨b,j,none⟩=some (.string (X i j)):=by
 have c:=h.row i hi
 rcases c.2 with ⟨_,C⟩|⟨b,cap,l,d,hb,k,p,o,s,u⟩
 ·omega
 have hf:=h.far i hi b (by rw[d];rfl);refine⟨b,cap,d,hb,(Array.getElem?_eq_some_iff.1 k).1,hf.1,hf.2,p,o,fun j=>by simp[World.frozen?,k],fun j m=>?_⟩;rw[d] at c;have:=World.ownsRow.cells c (g:=b) rfl j _ (z4t (L i) (X i) j m);rw[Addr.add_lit,Nat.zero_add] at this;exact this
theorem appended (h:OM w Z B eR eT g n R L X) {i:Nat} (hi:i<n) {wa z:World} (D:w.grownBy wa none) {o m cap:Nat} {Y:Nat->ByteArray}
  (A:z.ownsRow B eR 1 (.slice (some ⟨o,0,none⟩) m cap) m (strs m Y)) (F:wa.grownBy z (R i).ownBlock) (s:(R i).ownBlock=some o\/o=wa.heap.size) :
  OM (z.setCell ⟨g,i,none⟩ (.slice (some ⟨o,0,none⟩) m cap)) Z B eR eT g n (fun k=>if k=i then .slice (some ⟨o,0,none⟩) m cap else R k) (fun k=>if k=i then m else L k) (fun k=>if k=i then Y else X k):=by
 have N:=D.size;have E:=h.lt;have p:o≠g/\¬ Z o:=by
  rcases s with e|e
  ·exact h.far i hi o e
  exact⟨by omega,fun c=>by have:=h.zlt _ c;omega⟩
 have u:z.rowIs g eT n R:=(h.top.of_block (D.block g E (by simp))).of_block (F.block g (by omega) (fun e=>(h.far i hi g e.symm).1 rfl));refine⟨(u.set i _),h.base,h.zg,fun b hb=>?_,fun k d=>?_,fun k d b hb=>?_,fun k l d C j b hb=>?_⟩
 ·rw[nblk_setCell];have:=h.zlt b hb;have:=F.size;omega
 ·by_cases e:k=i
  ·subst e;simp only[if_pos];exact World.ownsRow.kept A ⟨rfl,rfl,rfl,by simp,fun q _ G=>blk_setCell_other _ _ _ _ (by show q≠g;intro e;exact G (by rw[e]))⟩ (row:=some g) (.inr (by simp[Value.ownBlock];exact p.1))
  simp only[if_neg e];have K:OwS wa B eR (R k) (L k) (X k):=(h.row k d).kept D (by simp);have J:z.ownsRow B eR 1 (R k) (L k) (strs (L k) (X k)):=World.ownsRow.kept K F (by
   cases hb:(R k).ownBlock with
   | none=>exact .inl rfl
   | some b=>exact .inr (fun c=>h.apart k i d hi e b hb c.symm))
  exact World.ownsRow.kept J ⟨rfl,rfl,rfl,by simp,fun q _ G=>blk_setCell_other _ _ _ _ (by show q≠g;intro e;exact G (by rw[e]))⟩ (row:=some g) (by
   cases hb:(R k).ownBlock with
   | none=>exact .inl rfl
   | some b=>exact .inr (fun c=>(h.far k d b hb).1 (Option.some.inj c)))
 ·by_cases e:k=i
  ·subst e;simp only[if_pos] at hb;simp[Value.ownBlock] at hb;subst hb;exact p
  simp only[if_neg e] at hb;exact h.far k d b hb
 by_cases e:k=i
 ·subst e;simp only[if_pos] at hb;simp only[if_neg (fun e:l=k=>j e.symm)];simp[Value.ownBlock] at hb;subst hb
  rcases s with c|c
  ·exact h.apart k l d C j _ c
  intro H;have:=(h.rowLt C _ H).2;omega
 simp only[if_neg e] at hb;by_cases c:l=i
 ·subst c;simp only[if_pos];simp[Value.ownBlock];intro H;subst H
  rcases s with I|I
  ·exact h.apart k l d C j _ hb I
  have:=(h.rowLt d _ hb).2;omega
 simp only[if_neg c];exact h.apart k l d C j b hb
theorem stored (h:OM w Z B eR eT g n R L X) {i j b cap:Nat} (hi:i<n) (s:j<L i) (d:R i=.slice (some ⟨b,0,none⟩) (L i) cap) (x:ByteArray) :
  OM (w.setCell ⟨b,j,none⟩ (.string x)) Z B eR eT g n R L (fun k l=>if k=i/\l=j then x else X k l):=by
 have m:=(h.far i hi b (by rw[d];rfl)).1;refine⟨h.top.setOther (by show g≠b;exact fun e=>m e.symm) _,h.base,h.zg,fun b hb=>by rw[nblk_setCell];exact h.zlt b hb,fun k c=>?_,h.far,h.apart⟩;by_cases e:k=i
 ·subst e;have:=h.row k c;rw[d] at this ⊢;exact(this.set s x).congr fun l _=>by simp
 refine OwS.congr (World.ownsRow.kept (h.row k c) ⟨rfl,rfl,rfl,by simp,fun q _ o=>blk_setCell_other _ _ _ _ (by show q≠b;intro e;exact o (by rw[e]))⟩ (row:=some b) (by
  cases hb:(R k).ownBlock with
  | none=>exact .inl rfl
  | some b'=>exact .inr (fun p=>h.apart k i c hi e b' hb (by rw[d,Value.ownBlock];exact p.symm)))) fun l _=>by simp[e]
theorem other (h:OM w Z B eR eT g n R L X) {p:Addr} (d:Z p.block\/p.block<B) (v:Value):OM (w.setCell p v) Z B eR eT g n R L X:=by
 have l:∀ b,(b=g\/∃ i,i<n/\(R i).ownBlock=some b)->b≠p.block:=by
  intro b hb e;subst e
  rcases hb with rfl|⟨i,hi,e⟩
  ·rcases d with c|c
   ·exact h.zg c
   have:=h.base;omega
  rcases d with c|c
  ·exact(h.far i hi _ e).2 c
  have:=(h.rowLt hi _ e).1;omega
 refine⟨h.top.setOther (l g (.inl rfl)) _,h.base,h.zg,fun b hb=>by rw[nblk_setCell];exact h.zlt b hb,fun k j=>?_,h.far,h.apart⟩;exact World.ownsRow.kept (h.row k j) ⟨rfl,rfl,rfl,by simp,fun q _ m=>blk_setCell_other _ _ _ _ (by intro e;exact m (by rw[e]))⟩ (row:=some p.block) (by
  cases hb:(R k).ownBlock with
  | none=>exact .inl rfl
  | some b=>exact .inr (fun e=>by cases e;exact l _ (.inr ⟨k,j,hb⟩) rfl))
theorem mt {z:Option Nat} (h:OM w Z B eR eT g n R L X) (hn:n<=maxLen) (o:∀ k,z=some k->k<B\/Z k):Mt z w (.slice (some ⟨g,0,none⟩) n n) n L X:=by
 refine⟨R,.inr ⟨g,0,n,rfl,⟨h.lt,fun e=>?_⟩,nlr,hn,fun i hi=>by rw[Nat.zero_add];exact h.cell hi⟩,fun i hi=>?_⟩
 ·rcases o g e.symm with d|d
  ·have:=h.base;omega
  exact h.zg d
 have m:=h.row i hi
 rcases m.2 with ⟨c,C⟩|⟨b,l,s,c,hb,u,d,A,F,E⟩
 ·exact .inl ⟨C,none,0,c,Nat.zero_le _⟩
 refine .inr ⟨b,0,l,c,⟨(Array.getElem?_eq_some_iff.1 u).1,fun e=>?_⟩,d,A,fun j D=>?_⟩
 ·rcases o b e.symm with p|p
  ·omega
  exact(h.far i hi b (by rw[c];rfl)).2 p
 rw[c] at m;have:=World.ownsRow.cells m (g:=b) rfl j _ (z4t (L i) (X i) j D);rw[Addr.add_lit] at this;exact this
end OM
end
section
open Go.RowKit
def Is (k:KK) (e:Nat) (s:ByteArray) (x:RK k):Prop:=s.size<=100000/\(e=0->s=vtxt x.1/\fitV x.1)
def Er (F:Prop) (e:Nat):Prop:=(e=0\/e=2)/\(F->e=0)
def kpE (e:Nat) (r:ByteArray × Nat):Nat:=if r.2≠0/\e=0 then r.2 else e
theorem y7e {e:Nat} {r:ByteArray × Nat} (h:kpE e r=0):e=0/\r.2=0:=by
 unfold kpE at h;split at h
 ·rename_i c;exact absurd h c.1
 rename_i c;subst h;exact⟨rfl,by simpa using c⟩
theorem Is.size {k:KK} {e:Nat} {s:ByteArray} {x:RK k} (h:Is k e s x):s.size<=100000:=h.1
theorem Is.mono {k:KK} {e e':Nat} {s:ByteArray} {x:RK k} (h:Is k e s x) (d:e'=0->e=0):Is k e' s x:=⟨h.1,fun c=>h.2 (d c)⟩
theorem Is.vprs {k:KK} {s:ByteArray} {x:RK k} (h:Is k 0 s x):vprs k.1 s=some x.1:=by
 obtain⟨d,c⟩:=h.2 rfl;rw[d];exact x5v c x.2
theorem z9b (v:V):(fitV v/\limV v=(vtxt v,0))\/(¬ fitV v/\(limV v).2=2):=by
 by_cases h:fitV v
 ·exact .inl ⟨h,y0r h⟩
 right;refine⟨h,?_⟩
 cases v with
 | inf=>exact absurd trivial h
 | low=>exact absurd trivial h
 | fin q=>show (limR q).2=2;unfold limR;rw[if_neg (show ¬ fitQ q from h)]
theorem x3b {k:KK} {e:Nat} {F:Prop} {r:ByteArray × Nat} {z:RK k} {u:ByteArray} (g:e=0->r=limV z.1) (i:Er F e) (A:F->fitV z.1) (s:u.size<=100000) (m:kpE e r=0->u=r.1) :
  Is k (kpE e r) u z/\Er F (kpE e r)/\(kpE e r=0->e=0):=by
 refine⟨⟨s,fun d=>?_⟩,⟨?_,fun hf=>?_⟩,fun d=>(y7e d).1⟩
 ·obtain⟨j,p⟩:=y7e d;have l:=m d
  rcases z9b z.1 with ⟨hf,c⟩|⟨_,c⟩
  ·rw[l,g j,c];exact⟨rfl,hf⟩
  rw[g j] at p;omega
 ·unfold kpE;split
  ·rename_i h
   rcases z9b z.1 with ⟨_,c⟩|⟨_,c⟩
   ·rw[g h.2,c] at h;exact absurd rfl h.1
   rw[g h.2];exact .inr c
  exact i.1
 have d:=i.2 hf
 rcases z9b z.1 with ⟨_,c⟩|⟨o,_⟩
 ·unfold kpE;rw[g d,c,if_neg (by simp)];exact d
 exact absurd (A hf) o
theorem v6a {k:KK} {e:Nat} {a b:ByteArray} {x y:RK k} (c:Is k e a x) (hb:Is k e b y) (d:e=0):z1k k.1 a b=limV (x+y).1:=by
 subst d;unfold z1k;rw[c.vprs,hb.vprs];rfl
theorem x1x {k:KK} {e:Nat} {a b:ByteArray} {x y:RK k} (c:Is k e a x) (hb:Is k e b y) (d:e=0):z0g k.1 a b=limV (x*y).1:=by
 subst d;unfold z0g;rw[c.vprs,hb.vprs];rfl
theorem v6z {k:KK} {e:Nat} {a:ByteArray} {x:RK k} (c:Is k e a x) (d:e=0):z5t k.1 a=limV (CSR.star x).1:=by
 subst d;unfold z5t;rw[c.vprs];rfl
theorem v6b (k:KK):fitV (CSR.zero:RK k).1:=(v8c k.1 (k:=1) (by omega)).fit (by omega)
theorem u3d (k:KK):fitV (CSR.one:RK k).1:=(u1g k.1 (k:=1) (by omega)).fit (by omega)
theorem Is.zero (k:KK) (e:Nat):Is k e (z0z k.1) CSR.zero:=⟨z8q k.1,fun _=>⟨v6d k.2,v6b k⟩⟩
theorem Is.one (k:KK) (e:Nat):Is k e (oneF k.1) CSR.one:=⟨x8u k.1,fun _=>⟨u3i k.2,u3d k⟩⟩
theorem Is.eq_zero {k:KK} {s:ByteArray} {x:RK k} (h:Is k 0 s x):s=z0z k.1↔x=CSR.zero:=by
 obtain⟨c,g⟩:=h.2 rfl;obtain⟨d,i⟩:=(Is.zero k 0).2 rfl
 constructor
 ·intro e;rw[c,d] at e;exact RK.ext (x6e g i e)
 intro e;rw[c,d,e]
theorem Is.eq {k:KK} {s t:ByteArray} {x y:RK k} (h:Is k 0 s x) (c:Is k 0 t y) (e:x=y):s=t:=by
 rw[(h.2 rfl).1,(c.2 rfl).1,e]
theorem Is.of_valid {k:KK} {s:ByteArray} (h:z0q k.1 s=true) (i:s.size<=100000) (e:Nat):∃ x:RK k,Is k e s x:=by
 obtain⟨v,c⟩:=y6g h;obtain⟨g,d⟩:=z3e.1 c;exact⟨⟨v,d⟩,i,fun _=>y2r g⟩
def TabB (B:Nat) (w:World):Prop:=∀ w',Below B w w'->Tab w'
theorem TabB.tab {B:Nat} {w:World} (h:TabB B w):Tab w:=h w blr
theorem TabB.of {w:World} (h:Tab w):TabB w.heap.size w:=fun _ hb=>h.below hb nlr
theorem TabB.kept {B:Nat} {w d:World} {z:Option Nat} (h:TabB B w) (c:w.grownBy d z) (g:∀ k,z=some k->B<=k) (l:B<=w.heap.size):TabB B d:=fun i hb =>
 h i (Below.trans ⟨c.os,c.tape,c.output,c.size,fun q j=>c.block q (by omega) (fun e=>by have:=g q e.symm;omega)⟩ hb)
end
section
open Go.RowKit
def wval (k:KK) (s:ByteArray):RK k:=match h:vprs k.1 s with
 | some v=>⟨v,(z3e.1 h).2⟩
 | none=>CSR.zero
theorem Is.val {k:KK} {s:ByteArray} {x:RK k} (h:Is k 0 s x):wval k s=x:=by
 have d:=h.vprs;unfold wval
 split
 ·rename_i v c;rw[d] at c;cases c;rfl
 rename_i c;rw[d] at c;cases c
theorem x4q {k:Int} {s:ByteArray} (h:z0q k s=true):s.size<=802:=by
 obtain⟨v,c⟩:=y6g h;obtain⟨g,d⟩:=y2r (z3e.1 c).1;have:=z6p v;rw[y0r d] at this;rw[g];exact this
theorem y3w {k:KK} {s:ByteArray} (h:z0q k.1 s=true):Is k 0 s (wval k s):=by
 obtain⟨x,c⟩:=Is.of_valid h (by have:=x4q h;omega) 0;rw[c.val];exact c
theorem y0j {k:Int} {s:ByteArray} (h:z0m k s=true):z0q k s=true:=by
 obtain⟨v,d,c⟩:=x4d h;unfold z0q;rw[z3e.2 ⟨d,u5k c⟩];rfl
end
section
theorem cellOf {w:World} {b:Nat} {c:Array Value} {e:TypeId} {f:Nat × Nat} (h:w.heap[b]?=some (.cells c e f)) (i:Nat) {v:Value} (d:c[i]?=some v):w.cell? ⟨b,i,none⟩=some v:=by
 simp[World.cell?,h,d]
end
section
open Go.RowKit Go.Deep
structure MD where
 kind:Int
 start:Int
 lead:ByteArray
 n:Nat
 fin:Nat->ByteArray
 na:Nat->Nat
 ain:Nat->Nat->Int
 aout:Nat->Nat->Int
 aw:Nat->Nat->ByteArray
 ato:Nat->Nat->Int
def ArS (z:Option Nat) (w:World) (v:Value) (D:MD) (i:Nat):Prop :=
 (D.na i=0/\∃ a cap,v=.slice a 0 cap/\cap<=maxLen)\/∃ b off cap,v=.slice (some ⟨b,off,none⟩) (D.na i) cap/\(b<w.heap.size/\some b≠z)/\D.na i<=cap/\cap<=maxLen/\∀ k,k<D.na i ->
  w.cell? ⟨b,off+k*4,none⟩=some (.int .i64 (D.ain i k))/\w.cell? ⟨b,off+k*4+1,none⟩=some (.int .i64 (D.aout i k))/\w.cell? ⟨b,off+k*4+2,none⟩=some (.string (D.aw i k))/\w.cell? ⟨b,off+k*4+3,none⟩=some (.int .i64 (D.ato i k))
def StS (z:Option Nat) (w:World) (v:Value) (D:MD):Prop :=
 (D.n=0/\∃ a cap,v=.slice a 0 cap/\cap<=maxLen)\/∃ b off cap,∃ A:Nat->Value,v=.slice (some ⟨b,off,none⟩) D.n cap/\(b<w.heap.size/\some b≠z)/\D.n<=cap/\cap<=maxLen/\∀ i,i<D.n ->
  w.cell? ⟨b,off+i*2,none⟩=some (.string (D.fin i))/\w.cell? ⟨b,off+i*2+1,none⟩=some (A i)/\ArS z w (A i) D i
theorem ArS.kept {z:Option Nat} {w l:World} {v:Value} {D:MD} {i:Nat} (h:ArS z w v D i) (d:w.grownBy l z):ArS z l v D i:=by
 rcases h with h|⟨b,g,j,s,c,u,m,o⟩
 ·exact .inl h
 refine .inr ⟨b,g,j,s,⟨Nat.lt_of_lt_of_le c.1 d.size,c.2⟩,u,m,fun k p=>?_⟩;obtain⟨c1,c2,c3,c4⟩:=o k p;exact⟨d.cell c1 c.2,d.cell c2 c.2,d.cell c3 c.2,d.cell c4 c.2⟩
theorem StS.kept {z:Option Nat} {w k:World} {v:Value} {D:MD} (h:StS z w v D) (c:w.grownBy k z):StS z k v D:=by
 rcases h with h|⟨b,g,j,A,o,d,p,l,m⟩
 ·exact .inl h
 refine .inr ⟨b,g,j,A,o,⟨Nat.lt_of_lt_of_le d.1 c.size,d.2⟩,p,l,fun i hi=>?_⟩;obtain⟨c1,c2,c3⟩:=m i hi;exact⟨c.cell c1 d.2,c.cell c2 d.2,c3.kept c⟩
theorem ArS.far {k:Nat} {z:Option Nat} {w:World} {v:Value} {D:MD} {i:Nat} (h:ArS z w v D i) (m:w.heap.size<=k):ArS (some k) w v D i:=by
 rcases h with h|⟨b,c,d,g,l,j⟩
 ·exact .inl h
 exact .inr ⟨b,c,d,g,⟨l.1,by simp;omega⟩,j⟩
theorem StS.far {k:Nat} {z:Option Nat} {w:World} {v:Value} {D:MD} (h:StS z w v D) (l:w.heap.size<=k):StS (some k) w v D:=by
 rcases h with h|⟨b,c,d,A,m,p,o,j,g⟩
 ·exact .inl h
 exact .inr ⟨b,c,d,A,m,⟨p.1,by simp;omega⟩,o,j,fun i hi=>⟨(g i hi).1,(g i hi).2.1,(g i hi).2.2.far l⟩⟩
theorem StS.open {z:Option Nat} {w:World} {v:Value} {D:MD} (h:StS z w v D):∃ a cap b off,∃ (A:Nat->Option Addr) (C B O:Nat->Nat),v=.slice a D.n cap/\(0<D.n->a=some ⟨b,off,none⟩)/\D.n<=cap/\cap<=maxLen/\(0<D.n->b<w.heap.size/\some b≠z) /\
  ∀ i,i<D.n->w.cell? ⟨b,off+i*2,none⟩=some (.string (D.fin i))/\w.cell? ⟨b,off+i*2+1,none⟩=some (.slice (A i) (D.na i) (C i))/\D.na i<=C i/\C i<=maxLen/\(0<D.na i->A i=some ⟨B i,O i,none⟩)/\(0<D.na i->B i<w.heap.size/\some (B i)≠z) /\
   ∀ k,k<D.na i->w.cell? ⟨B i,O i+k*4,none⟩=some (.int .i64 (D.ain i k))/\w.cell? ⟨B i,O i+k*4+1,none⟩=some (.int .i64 (D.aout i k))/\w.cell? ⟨B i,O i+k*4+2,none⟩=some (.string (D.aw i k))/\w.cell? ⟨B i,O i+k*4+3,none⟩=some (.int .i64 (D.ato i k)):=by
 rcases h with ⟨J,a,cap,rfl,K⟩|⟨b,off,cap,A,rfl,I,H,L,d⟩
 ·exact⟨a,cap,0,0,fun _=>none,fun _=>0,fun _=>0,fun _=>0,by rw[J],by omega,by omega,K,by omega,fun i hi=>by omega⟩
 classical
 have c:∀ i,∃ t:Option Addr × Nat × Nat × Nat,i<D.n->A i=.slice t.1 (D.na i) t.2.1/\D.na i<=t.2.1/\t.2.1<=maxLen/\(0<D.na i->t.1=some ⟨t.2.2.1,t.2.2.2,none⟩)/\(0<D.na i->t.2.2.1<w.heap.size/\some t.2.2.1≠z) /\
   ∀ k,k<D.na i->w.cell? ⟨t.2.2.1,t.2.2.2+k*4,none⟩=some (.int .i64 (D.ain i k))/\w.cell? ⟨t.2.2.1,t.2.2.2+k*4+1,none⟩=some (.int .i64 (D.aout i k))/\w.cell? ⟨t.2.2.1,t.2.2.2+k*4+2,none⟩=some (.string (D.aw i k))/\w.cell? ⟨t.2.2.1,t.2.2.2+k*4+3,none⟩=some (.int .i64 (D.ato i k)):=fun i=>by
  by_cases hi:i<D.n
  ·rcases (d i hi).2.2 with ⟨u,N,j,e,m⟩|⟨s,E,j,e,p,l,o,g⟩
   ·exact⟨(N,j,0,0),fun _=>⟨by rw[e,u],by rw[u];exact Nat.zero_le _,m,by omega,by omega,fun k P=>by omega⟩⟩
   exact⟨(some ⟨s,E,none⟩,j,s,E),fun _=>⟨e,l,o,fun _=>rfl,fun _=>p,g⟩⟩
  exact⟨(none,0,0,0),fun h=>absurd h hi⟩
 refine⟨_,cap,b,off,fun i=>(Classical.choose (c i)).1,fun i=>(Classical.choose (c i)).2.1,fun i=>(Classical.choose (c i)).2.2.1,fun i=>(Classical.choose (c i)).2.2.2,rfl,fun _=>rfl,H,L,fun _=>I,fun i hi=>?_⟩;obtain⟨p,l,o,g,F,G⟩:=Classical.choose_spec (c i) hi;exact⟨(d i hi).1,by rw[(d i hi).2.1,p],l,o,g,F,G⟩
def Ma (z:Option Nat) (w:World) (v:Value) (D:MD):Prop:=∃ sv,v=.agg #[.int .i64 D.kind,.int .i64 D.start,.string D.lead,sv]/\StS z w sv D
def z0f (D:MD):Nat->Nat
 | 0=>0
 | i+1=>z0f D i+D.na i
theorem z1w (D:MD) {i j:Nat} (h:i<=j):z0f D i<=z0f D j:=by
 induction j with
 | zero =>
      have:i=0:=by omega
      subst this;exact nlr
 | succ j ih =>
  by_cases e:i=j+1
  ·subst e;exact nlr
  have:=ih (by omega);show _<=z0f D j+D.na j;omega
structure ArcOk (D:MD) (i k:Nat):Prop where
 i0:0<=D.ain i k
 i1:D.ain i k<=500
 o0:0<=D.aout i k
 o1:D.aout i k<=500
 t0:0<=D.ato i k
 t1:D.ato i k<(D.n:Int)
 wt:z0m D.kind (D.aw i k)=true
structure VM (D:MD):Prop where
 kind:z3v D.kind=true
 n1:1<=D.n
 n2:D.n<=3000
 s0:0<=D.start
 s1:D.start<(D.n:Int)
 lead:z0m D.kind D.lead=true
 arcs:z0f D D.n<=30000
 fin:∀ i,i<D.n->D.fin i=⟨#[]⟩\/z0m D.kind (D.fin i)=true
 arc:∀ i k,i<D.n->k<D.na i->ArcOk D i k
structure MSz (D:MD):Prop where
 lead:D.lead.size<=9223372036854775807
 fin:∀ i,(D.fin i).size<=9223372036854775807
 aw:∀ i k,(D.aw i k).size<=9223372036854775807
 na:∀ i,D.na i<=140737488355328
 n:D.n<=140737488355328
 kind:-9223372036854775808<=D.kind/\D.kind<=9223372036854775807
end
section
open Go.RowKit Go.Deep
theorem z9c (s:Int) (w:World):Calls prog 76 #[.int .i64 s] w fun e w'=>e=.returned (.bool (decide (0<=s)&&decide (s<=500)))/\w=w':=by
 by_cases h:0<=s
 ·go_enter func76,ntmps76
  go_wp2;go_ret;exact⟨z0v (by simp[h]),rfl⟩
 have c:decide (0<=s)=false:=by simp;omega
 go_enter func76,ntmps76
 go_wp2;go_ret;exact⟨z0v rfl,rfl⟩
theorem z2s (w:World) (cs:Array Value) (t:TypeId) (i:Nat) (v:Value) (h:cs[i]?=some v):(w.alloc (.cells cs t)).cell? ⟨w.heap.size,i,none⟩=some v:=by
 have c:(w.alloc (.cells cs t)).heap[w.heap.size]?=some (.cells cs t (0,0)):=heap_alloc_new w _;generalize w.heap.size=b at *;generalize w.alloc (.cells cs t)=w2 at *;simp[World.cell?,c,h]
def ValidE (D:MD) (w:World) (r:Ending) (w':World):Prop:=Below w.heap.size w w'/\((VM D/\r=.returned (.bool true))\/(¬ VM D/\r=.returned (.bool false)))
def BoxM (wr:World) (mb:Nat) (D:MD) (sv:Value):Prop:=wr.heap[mb]?=some (.cells #[.int .i64 D.kind,.int .i64 D.start,.string D.lead,sv] 24 (0,0))
theorem BoxM.c0 {wr:World} {c:Nat} {D:MD} {sv:Value} (h:BoxM wr c D sv):wr.cell? ⟨c,0,none⟩=some (.int .i64 D.kind):=by unfold BoxM at h;simp[World.cell?,h]
theorem BoxM.c1 {wr:World} {c:Nat} {D:MD} {sv:Value} (h:BoxM wr c D sv):wr.cell? ⟨c,1,none⟩=some (.int .i64 D.start):=by unfold BoxM at h;simp[World.cell?,h]
theorem BoxM.c2 {wr:World} {c:Nat} {D:MD} {sv:Value} (h:BoxM wr c D sv):wr.cell? ⟨c,2,none⟩=some (.string D.lead):=by unfold BoxM at h;simp[World.cell?,h]
theorem BoxM.c3 {wr:World} {c:Nat} {D:MD} {sv:Value} (h:BoxM wr c D sv):wr.cell? ⟨c,3,none⟩=some sv:=by unfold BoxM at h;simp[World.cell?,h]
theorem BoxM.lt {wr:World} {c:Nat} {D:MD} {sv:Value} (h:BoxM wr c D sv):c<wr.heap.size:=(Array.getElem?_eq_some_iff.1 h).1
theorem BoxM.kept {wr d:World} {c:Nat} {D:MD} {sv:Value} {z:Option Nat} (h:BoxM wr c D sv) (i:wr.grownBy d z) (g:some c≠z):BoxM d c D sv:=by
 unfold BoxM;rw[i.block c h.lt g];exact h
theorem BoxM.new (w:World) (D:MD) (sv:Value):BoxM (w.alloc (.cells #[.int .i64 D.kind,.int .i64 D.start,.string D.lead,sv] 24)) w.heap.size D sv:=heap_alloc_new w _
theorem z1v {D:MD} {v:Value} (w:World) (hM:Ma none w v D) (hs:MSz D) (ht:Tab w):Calls prog 34 #[v] w (ValidE D w):=by
 obtain⟨sv,rfl,hS⟩:=hM;obtain⟨a,S,b,b2,A,C,BB,O,rfl,ha,hc,hm,hb,b5⟩:=hS.open;unfold maxLen at hm;clear hS;have E:=BoxM.new w D (.slice a D.n S);have c7:Below w.heap.size w (w.alloc (.cells #[.int .i64 D.kind,.int .i64 D.start,.string D.lead,.slice a D.n S] 24)):=blr.alloc nlr _;have h6:=hs.n;obtain⟨h0,g6⟩:=hs.kind;have Z:=qh hs;clear hs;have HT:=qh ht;clear ht;have HA:=qh ha;clear ha;have HB:=qh hb;clear hb;have HR:=qh b5;clear b5;have m0:=E.c0;have m1:=E.c1;have m2:=E.c2;have m3:=E.c3;have R:=qh E;clear E;have J:=qh c7;clear c7
 go_enter func34,ntmps34
 go_wp2_with fail
 all_goals first
  | (go_ret;exact⟨J.out,.inr ⟨fun v=>by have m:=v.kind;have s:=v.n1;have h3:=v.n2;have h4:=v.s0;have h5:=v.s1;unfold z3v at m;simp at m;omega,rfl⟩⟩)
  | skip
 have e9:z3v D.kind=true:=by unfold z3v;simp;omega
 obtain⟨wm,W⟩:=exq (w.alloc (.cells #[.int .i64 D.kind,.int .i64 D.start,.string D.lead,.slice a D.n S] 24));obtain⟨mb,a1⟩:=exq (w.heap.size);have b6:1<=D.n/\D.n<=3000/\0<=D.start/\D.start<(D.n:Int):=by omega
 have f2:=qh b6;clear b6;have g3:=qh e9;clear e9;rw[<- W,<- a1] at R;rw[<- W] at J;rw[<- a1];rw[<- W] at m0 m1 m2 m3;rw[<- a1] at m0 m1 m2 m3;rw[<- W];have g7:=qh a1;clear a1;clear W;have f1:=z3g D.kind D.lead wm Z.out.lead (HT.out.below J.out nlr);have b3:=qh f1;clear f1;clear m0 m1 m2 m3;cases hw:z0m D.kind D.lead
 ·rw[hw] at b3;refine b3.out.mono ?_;rintro r w1 ⟨rfl,T⟩;go_wp2;go_ret;exact⟨J.out.trans (T.mono J.out.size),.inr ⟨fun v=>by rw[v.lead] at hw;exact absurd hw (by simp),rfl⟩⟩
 rw[hw] at b3;refine b3.out.mono ?_;rintro r w1 ⟨rfl,T⟩;have b1:=R.out.kept (z0b T none) (by simp);have b8:=J.out.trans (T.mono J.out.size);clear T;have m3:=b1.c3;have b9:=qh b1;clear b1 R;have b7:=qh b8;clear b8 J
 go_wp2_with fail
 clear m3
 go_loopw [4,50] (fun c i wr=>∃ q:Nat,q<=D.n/\i=.int .i64 (q:Int)/\c=.int .i64 (z0f D q:Nat)/\z0f D q<=30000 /\
  (∀ l,l<q->(D.fin l=⟨#[]⟩\/z0m D.kind (D.fin l)=true)/\∀ k,k<D.na l->ArcOk D l k)/\BoxM wr mb D (.slice a D.n S)/\Below w.heap.size w wr) (fun _ i _=>D.n-(intOf i).toNat)
 case atStart=>exact⟨0,Nat.zero_le _,rfl,rfl,by show 0<=30000;omega,fun l hl=>by omega,b9.out,b7.out⟩
 obtain⟨q,hq,rfl,rfl,g4,f4,e7,d7⟩:=hrel;clear b9 b7;have b4:=qh f4;clear f4;have R:=qh e7;clear e7;have U:=qh d7;clear d7;by_cases u:q<D.n
 ·have g8:(q:Int)<(D.n:Int):=by omega
  have g5:(0:Int)<=(q:Int):=by omega
  obtain rfl:=HA.out (by omega);have e4:=(HB.out (by omega)).1;obtain⟨k1,k2,k3,k4,k5,k6,k7⟩:=HR.out q u;generalize A q=aq at k2 k5;have c0:=(U.out.cell (p:=⟨b,b2+q*2,none⟩) e4).trans k1;have c1:=(U.out.cell (p:=⟨b,b2+q*2+1,none⟩) e4).trans k2;unfold maxLen at k4;have mA:=fun o=>(BoxM.c0 (R.out.kept (World.grownBy_alloc wr o none) (by simp)));have mB:=fun o=>R.out.kept (World.grownBy_alloc wr o none) (by simp);have mW:=fun o=>U.out.alloc U.out.size o;have c8:=qh mB;clear mB;have Q:=qh mW;clear mW;clear k1 k2;have e6:=qh k7;clear k7;have f3:=qh k5;clear k5;have d5:=qh k6;clear k6;have g9:=Z.out.na q;by_cases hG:30000<z0f D q+D.na q
  ·have g1:(30000:Int)<(z0f D q:Nat)+(D.na q:Int):=by omega
   go_wp2;go_ret;exact⟨Q.out _,.inr ⟨fun v=>by have m:=v.arcs;have s:=z1w D (show q+1<=D.n by omega);have h3:z0f D (q+1)=z0f D q+D.na q:=rfl;omega,rfl⟩⟩
  have g1:decide ((30000:Int)<(z0f D q:Nat)+(D.na q:Int))=false:=by simp;omega
  cases hF:((D.fin q).toList==[])
  ·have d6:=fun wx hb=>z3g D.kind (D.fin q) wx (Z.out.fin q) (HT.out.below (B:=w.heap.size) hb nlr);have f7:=qh d6;clear d6
   go_wp2_with fail
   refine(f7.out _ (Q.out _)).mono ?_;rintro r w2 ⟨rfl,X⟩;cases d0:z0m D.kind (D.fin q)
   ·go_wp2;go_ret;exact⟨(Q.out _).trans (X.mono (Q.out _).size),.inr ⟨fun v=>by
     rcases v.fin q u with m|m
     ·rw[m] at hF;exact absurd hF (by simp)
     rw[m] at d0;exact absurd d0 (by simp),rfl⟩⟩
   have f0:=(c8.out (.cells #[.string (D.fin q),.slice aq (D.na q) (C q)] 57)).kept (z0b X none) (by simp);have d3:=(Q.out (.cells #[.string (D.fin q),.slice aq (D.na q) (C q)] 57)).trans (X.mono (Q.out _).size);have g0:w2.cell? ⟨wr.heap.size,1,none⟩=some (.slice aq (D.na q) (C q)):=by
    rw[X.cell (p:=⟨wr.heap.size,1,none⟩) (by simp)];exact z2s wr _ _ 1 _ rfl
   clear X;have b0:=qh f0;clear f0;have a3:=qh d3;clear d3;have d1:=qh (show D.fin q=⟨#[]⟩\/z0m D.kind (D.fin q)=true from .inr d0)
   go_wp2_with fail
   clear g0
   go_loopw [77] (fun i wr=>∃ d:Nat,d<=D.na q/\i=.int .i64 (d:Int)/\(∀ k,k<d->ArcOk D q k)/\BoxM wr mb D (.slice (some ⟨b,b2,none⟩) D.n S)/\Below w.heap.size w wr) (fun i _=>D.na q-(intOf i).toNat)
   case atStart=>exact⟨0,Nat.zero_le _,rfl,fun k hk=>by omega,b0.out,a3.out⟩
   obtain⟨d,hd,rfl,a4,G,I⟩:=hrel;clear b0 a3;have a7:=qh a4;clear a4;have z:=qh G;clear G;have h:=qh I;clear I;by_cases j:d<D.na q
   ·have f8:(d:Int)<(D.na q:Int):=by omega
    have d8:(0:Int)<=(d:Int):=by omega
    obtain rfl:=f3.out (by omega);have F:=(d5.out (by omega)).1;obtain⟨j0,j1,j2,j3⟩:=e6.out d j;have e0:=(h.out.cell (p:=⟨BB q,O q+d*4,none⟩) F).trans j0;have e1:=(h.out.cell (p:=⟨BB q,O q+d*4+1,none⟩) F).trans j1;have e2:=(h.out.cell (p:=⟨BB q,O q+d*4+2,none⟩) F).trans j2;have e3:=(h.out.cell (p:=⟨BB q,O q+d*4+3,none⟩) F).trans j3;clear j0 j1 j2 j3;have c9:=fun o=>(BoxM.c0 (z.out.kept (World.grownBy_alloc wr o none) (by simp)));have a9:=qh (fun o=>z.out.kept (World.grownBy_alloc wr o none) (by simp));have g:=qh (fun o=>h.out.alloc h.out.size o);have K:=fun wx hb=>z3g D.kind (D.aw q d) wx (Z.out.aw q d) (HT.out.below (B:=w.heap.size) hb nlr);have a8:=qh K;clear K
    go_wp2_with fail
    refine(z9c _ _).mono ?_;rintro r w' ⟨rfl,rfl⟩;cases a6:(decide (0<=D.ain q d)&&decide (D.ain q d<=500))
    ·have L:=qh a6;go_wp2;go_ret;exact⟨g.out _,.inr ⟨fun v=>by have m:=v.arc q d u j;have s:=L.out;rw[decide_eq_true m.i0,decide_eq_true m.i1] at s;exact absurd s (by simp),rfl⟩⟩
    have L:=qh a6
    go_wp2_with fail
    refine(z9c _ _).mono ?_;rintro r w' ⟨rfl,rfl⟩;cases a2:(decide (0<=D.aout q d)&&decide (D.aout q d<=500))
    ·have P:=qh a2;go_wp2;go_ret;exact⟨g.out _,.inr ⟨fun v=>by have m:=v.arc q d u j;have s:=P.out;rw[decide_eq_true m.o0,decide_eq_true m.o1] at s;exact absurd s (by simp),rfl⟩⟩
    have P:=qh a2;by_cases f5:D.ato q d<0
    ·go_wp2;go_ret;exact⟨g.out _,.inr ⟨fun v=>by have m:=(v.arc q d u j).t0;omega,rfl⟩⟩
    have d4:decide (D.ato q d<0)=false:=by simp;omega
    by_cases g2:(D.n:Int)<=D.ato q d
    ·go_wp2;go_ret;exact⟨g.out _,.inr ⟨fun v=>by have m:=(v.arc q d u j).t1;omega,rfl⟩⟩
    have e8:decide ((D.n:Int)<=D.ato q d)=false:=by simp;omega
    go_wp2_with fail
    refine(a8.out _ (g.out _)).mono ?_;rintro r w4 ⟨rfl,N⟩;have a5:=(a9.out _).kept (z0b N none) (by simp);have H:=(g.out _).trans (N.mono (g.out _).size);clear N c9 e0 e1 e2 e3;cases Y:z0m D.kind (D.aw q d)
    ·go_wp2;go_ret;exact⟨H,.inr ⟨fun v=>by have m:=(v.arc q d u j).wt;rw[Y] at m;exact absurd m (by simp),rfl⟩⟩
    go_wp2;go_roundw
    case rel =>
     refine⟨d+1,by omega,by go_num,fun k hk=>?_,a5,H⟩
     rcases Nat.lt_succ_iff_lt_or_eq.1 hk with s|s
     ·exact a7.out k s
     subst s;have h3:=L.out;have h4:=P.out;simp only[Bool.and_eq_true,decide_eq_true_eq] at h3 h4;exact⟨h3.1,h3.2,h4.1,h4.2,by omega,by omega,Y⟩
    simp[intOf];omega
   have d2:d=D.na q:=by omega
   subst d2;have d9:¬ ((D.na q:Int)<(D.na q:Int)):=by omega
   go_wp2;go_roundw
   case rel =>
    refine⟨q+1,by omega,by go_num,rfl,by show z0f D q+D.na q<=30000;omega,fun l hl=>?_,z.out,h.out⟩
    rcases Nat.lt_succ_iff_lt_or_eq.1 hl with s|s
    ·exact b4.out l s
    subst s;exact⟨d1.out,a7.out⟩
   simp[intOf];omega
  have e5:D.fin q=⟨#[]⟩:=by rw[beq_iff_eq,Lib.toList_data] at hF;exact ByteArray.ext (Array.toList_inj.1 hF)
  have d1:=qh (show D.fin q=⟨#[]⟩\/z0m D.kind (D.fin q)=true from .inl e5);clear e5;have b0:=qh (c8.out (.cells #[.string (D.fin q),.slice aq (D.na q) (C q)] 57));have a3:=qh (Q.out (.cells #[.string (D.fin q),.slice aq (D.na q) (C q)] 57))
  go_wp2_with fail
  go_loopw [77] (fun i wr=>∃ d:Nat,d<=D.na q/\i=.int .i64 (d:Int)/\(∀ k,k<d->ArcOk D q k)/\BoxM wr mb D (.slice (some ⟨b,b2,none⟩) D.n S)/\Below w.heap.size w wr) (fun i _=>D.na q-(intOf i).toNat)
  case atStart=>exact⟨0,Nat.zero_le _,rfl,fun k hk=>by omega,b0.out,a3.out⟩
  obtain⟨d,hd,rfl,a4,G,I⟩:=hrel;clear b0 a3;have a7:=qh a4;clear a4;have z:=qh G;clear G;have h:=qh I;clear I;by_cases j:d<D.na q
  ·have f8:(d:Int)<(D.na q:Int):=by omega
   have d8:(0:Int)<=(d:Int):=by omega
   obtain rfl:=f3.out (by omega);have F:=(d5.out (by omega)).1;obtain⟨j0,j1,j2,j3⟩:=e6.out d j;have e0:=(h.out.cell (p:=⟨BB q,O q+d*4,none⟩) F).trans j0;have e1:=(h.out.cell (p:=⟨BB q,O q+d*4+1,none⟩) F).trans j1;have e2:=(h.out.cell (p:=⟨BB q,O q+d*4+2,none⟩) F).trans j2;have e3:=(h.out.cell (p:=⟨BB q,O q+d*4+3,none⟩) F).trans j3;clear j0 j1 j2 j3;have c9:=fun o=>(BoxM.c0 (z.out.kept (World.grownBy_alloc wr o none) (by simp)));have a9:=qh (fun o=>z.out.kept (World.grownBy_alloc wr o none) (by simp));have g:=qh (fun o=>h.out.alloc h.out.size o);have K:=fun wx hb=>z3g D.kind (D.aw q d) wx (Z.out.aw q d) (HT.out.below (B:=w.heap.size) hb nlr);have a8:=qh K;clear K
   go_wp2_with fail
   refine(z9c _ _).mono ?_;rintro r w' ⟨rfl,rfl⟩;cases a6:(decide (0<=D.ain q d)&&decide (D.ain q d<=500))
   ·have L:=qh a6;go_wp2;go_ret;exact⟨g.out _,.inr ⟨fun v=>by have m:=v.arc q d u j;have s:=L.out;rw[decide_eq_true m.i0,decide_eq_true m.i1] at s;exact absurd s (by simp),rfl⟩⟩
   have L:=qh a6
   go_wp2_with fail
   refine(z9c _ _).mono ?_;rintro r w' ⟨rfl,rfl⟩;cases a2:(decide (0<=D.aout q d)&&decide (D.aout q d<=500))
   ·have P:=qh a2;go_wp2;go_ret;exact⟨g.out _,.inr ⟨fun v=>by have m:=v.arc q d u j;have s:=P.out;rw[decide_eq_true m.o0,decide_eq_true m.o1] at s;exact absurd s (by simp),rfl⟩⟩
   have P:=qh a2;by_cases f5:D.ato q d<0
   ·go_wp2;go_ret;exact⟨g.out _,.inr ⟨fun v=>by have m:=(v.arc q d u j).t0;omega,rfl⟩⟩
   have d4:decide (D.ato q d<0)=false:=by simp;omega
   by_cases g2:(D.n:Int)<=D.ato q d
   ·go_wp2;go_ret;exact⟨g.out _,.inr ⟨fun v=>by have m:=(v.arc q d u j).t1;omega,rfl⟩⟩
   have e8:decide ((D.n:Int)<=D.ato q d)=false:=by simp;omega
   go_wp2_with fail
   refine(a8.out _ (g.out _)).mono ?_;rintro r w4 ⟨rfl,N⟩;have a5:=(a9.out _).kept (z0b N none) (by simp);have H:=(g.out _).trans (N.mono (g.out _).size);clear N c9 e0 e1 e2 e3;cases Y:z0m D.kind (D.aw q d)
   ·go_wp2;go_ret;exact⟨H,.inr ⟨fun v=>by have m:=(v.arc q d u j).wt;rw[Y] at m;exact absurd m (by simp),rfl⟩⟩
   go_wp2;go_roundw
   case rel =>
    refine⟨d+1,by omega,by go_num,fun k hk=>?_,a5,H⟩
    rcases Nat.lt_succ_iff_lt_or_eq.1 hk with s|s
    ·exact a7.out k s
    subst s;have h3:=L.out;have h4:=P.out;simp only[Bool.and_eq_true,decide_eq_true_eq] at h3 h4;exact⟨h3.1,h3.2,h4.1,h4.2,by omega,by omega,Y⟩
   simp[intOf];omega
  have d2:d=D.na q:=by omega
  subst d2;have d9:¬ ((D.na q:Int)<(D.na q:Int)):=by omega
  go_wp2;go_roundw
  case rel =>
   refine⟨q+1,by omega,by go_num,rfl,by show z0f D q+D.na q<=30000;omega,fun l hl=>?_,z.out,h.out⟩
   rcases Nat.lt_succ_iff_lt_or_eq.1 hl with s|s
   ·exact b4.out l s
   subst s;exact⟨d1.out,a7.out⟩
  simp[intOf];omega
 have f9:q=D.n:=by omega
 subst f9;have d9:¬ ((D.n:Int)<(D.n:Int)):=by omega
 obtain⟨p1,p2,p3,p4⟩:=f2.out;go_wp2;go_ret;exact⟨U.out,.inl ⟨⟨g3.out,p1,p2,p3,p4,hw,g4,fun i hi=>(b4.out i hi).1,fun i k hi hk=>(b4.out i hi).2 k hk⟩,rfl⟩⟩
end
section
open Go.RowKit Go.Deep
structure Fr (C:Nat->Prop) (w w':World):Prop where
 os:w'.os=w.os
 tape:w'.tape=w.tape
 output:w'.output=w.output
 size:w.heap.size<=w'.heap.size
 block:∀ q,q<w.heap.size->¬ C q->w'.heap[q]?=w.heap[q]?
namespace Fr
variable {C C':Nat->Prop} {w w' w2:World}
theorem refl (C:Nat->Prop) (w:World):Fr C w w:=⟨rfl,rfl,rfl,nlr,fun _ _ _=>rfl⟩
theorem trans (h:Fr C w w') (k:Fr C w' w2):Fr C w w2:=⟨k.os.trans h.os,k.tape.trans h.tape,k.output.trans h.output,Nat.le_trans h.size k.size,fun q d c=>(k.block q (by have:=h.size;omega) c).trans (h.block q d c)⟩
theorem mono (h:Fr C w w') (g:∀ q,q<w.heap.size->C q->C' q):Fr C' w w':=⟨h.os,h.tape,h.output,h.size,fun q c d=>h.block q c fun e=>d (g q c e)⟩
theorem of_gb {z:Option Nat} (h:w.grownBy w' z) (d:∀ q,z=some q->C q):Fr C w w':=⟨h.os,h.tape,h.output,h.size,fun q c g=>h.block q c fun e=>g (d q e.symm)⟩
theorem of_below (h:Below w.heap.size w w'):Fr C w w':=of_gb (z0b h none) (by simp)
theorem alloc (w:World) (o:Obj):Fr C w (w.alloc o):=of_gb (World.grownBy_alloc w o none) (by simp)
theorem drew (h:Fr C w w'):Fr C w w'.drew:=⟨h.os,h.tape,h.output,h.size,h.block⟩
theorem set (h:Fr C w w') {p:Addr} (g:C p.block\/w.heap.size<=p.block) (v:Value):Fr C w (w'.setCell p v) :=
 ⟨h.os,h.tape,h.output,by rw[nblk_setCell];exact h.size,fun q d c=>(blk_setCell_other _ _ _ _ (by
  rcases g with e|e
  ·intro i;subst i;exact c e
  omega)).trans (h.block q d c)⟩
theorem below (h:Fr C w w') {B:Nat} (g:B<=w.heap.size) (c:∀ q,C q->B<=q):Below B w w':=⟨h.os,h.tape,h.output,h.size,fun q d=>h.block q (by omega) fun e=>by have:=c q e;omega⟩
theorem gb {z:Option Nat} (h:Fr (fun q=>z=some q) w w'):w.grownBy w' z:=⟨h.os,h.tape,h.output,h.size,fun q c d=>h.block q c fun e=>d e.symm⟩
theorem cell (h:Fr C w w') {p:Addr} {v:Value} (c:w.cell? p=some v) (g:¬ C p.block):w'.cell? p=some v:=by
 have d:p.block<w.heap.size:=by
  unfold World.cell? at c;cases hb:w.heap[p.block]? with
  | none=>simp[hb] at c
  | some o=>exact(Array.getElem?_eq_some_iff.1 hb).1
 unfold World.cell? at c ⊢;rw[h.block _ d g];exact c
theorem row (h:Fr C w w') {g:Nat} {t:TypeId} {n:Nat} {F:Nat->Value} (c:w.rowIs g t n F) (d:¬ C g):w'.rowIs g t n F:=c.of_block (h.block g c.lt d)
end Fr
theorem z0e {w:World} {p:Addr} {q:Nat} (h:q≠p.block) (v:Value):(w.setCell p v).heap[q]?=w.heap[q]?:=blk_setCell_other _ _ _ _ h
def z2e (k:Int) (a b:ByteArray) (e:Nat):ByteArray × Nat:=if a=⟨#[]⟩\/e≠0 then (b,e) else z1k k a b
def z0s (k:Int) (a b:ByteArray) (e:Nat):ByteArray × Nat:=if e≠0 then (a,e) else z0g k a b
abbrev WS:=(Nat->ByteArray) × Nat
def updS (l:Nat->ByteArray) (t:Nat) (s:ByteArray):Nat->ByteArray:=fun j=>if j=t then s else l j
def arcC (D:MD) (sel:Int->Int->Bool) (v:Nat->ByteArray) (q k:Nat) (s:WS):WS :=
 if sel (D.ain q k) (D.aout q k)=true then
  (updS s.1 (D.ato q k).toNat (z2e D.kind (s.1 (D.ato q k).toNat) (z0s D.kind (v q) (D.aw q k) s.2).1 (z0s D.kind (v q) (D.aw q k) s.2).2).1,(z2e D.kind (s.1 (D.ato q k).toNat) (z0s D.kind (v q) (D.aw q k) s.2).1 (z0s D.kind (v q) (D.aw q k) s.2).2).2)
 else s
def z3f (D:MD) (sel:Int->Int->Bool) (v:Nat->ByteArray) (q:Nat):Nat->WS->WS
 | 0,s=>s
 | k+1,s=>arcC D sel v q k (z3f D sel v q k s)
def rowC (D:MD) (sel:Int->Int->Bool) (v:Nat->ByteArray) (q:Nat) (s:WS):WS:=if v q=⟨#[]⟩ then s else z3f D sel v q (D.na q) s
def z2y (D:MD) (sel:Int->Int->Bool) (v:Nat->ByteArray):Nat->WS->WS
 | 0,s=>s
 | q+1,s=>rowC D sel v q (z2y D sel v q s)
def endC (D:MD) (v:Nat->ByteArray):Nat->ByteArray × Nat->ByteArray × Nat
 | 0,s=>s
 | q+1,s=>if v q=⟨#[]⟩\/D.fin q=⟨#[]⟩ then endC D v q s else z2e D.kind (endC D v q s).1 (z0s D.kind (v q) (D.fin q) (endC D v q s).2).1 (z0s D.kind (v q) (D.fin q) (endC D v q s).2).2
def finC (D:MD) (v:Nat->ByteArray) (e:Nat):ByteArray × Nat:=if (endC D v D.n (z0z D.kind,e)).2≠0 then (⟨#[]⟩,(endC D v D.n (z0z D.kind,e)).2) else ((endC D v D.n (z0z D.kind,e)).1,0)
def z6k (D:MD):Nat->ByteArray:=fun q=>if q=D.start.toNat then D.lead else ⟨#[]⟩
def z1f:Nat->ByteArray:=fun _=>⟨#[]⟩
def smS (s:ByteArray):Prop:=s.size<=9223372036854775807
theorem v2p (v:V):smS (limV v).1:=by
 unfold smS;cases v with
 | inf=>decide
 | low=>decide
 | fin q=>exact Nat.le_trans (x1a q) (by omega)
theorem v8a (k:Int) (a b:ByteArray):smS (z1k k a b).1:=by
 unfold z1k;split
 ·exact v2p _
 show (str []).size<=_;decide
theorem x0m (k:Int) (a b:ByteArray):smS (z0g k a b).1:=by
 unfold z0g;split
 ·exact v2p _
 show (str []).size<=_;decide
theorem y2x {k:Int} {a b:ByteArray} {e:Nat} (hb:smS b):smS (z2e k a b e).1:=by
 unfold z2e;split
 ·exact hb
 exact v8a _ _ _
theorem z6u {k:Int} {a b:ByteArray} {e:Nat} (c:smS a):smS (z0s k a b e).1:=by
 unfold z0s;split
 ·exact c
 exact x0m _ _ _
theorem u1m {D:MD} {sel:Int->Int->Bool} {v:Nat->ByteArray} {q k:Nat} {s:WS} (d:smS (v q)) (c:∀ j,smS (s.1 j)) (j:Nat):smS ((arcC D sel v q k s).1 j):=by
 unfold arcC;split
 ·show smS (updS s.1 _ _ j);unfold updS;split
  ·exact y2x (z6u d)
  exact c j
 exact c j
theorem y8h {D:MD} {sel:Int->Int->Bool} {v:Nat->ByteArray} {q:Nat} (hv:smS (v q)):∀ (k:Nat) {s:WS},(∀ j,smS (s.1 j))->∀ j,smS ((z3f D sel v q k s).1 j)
 | 0,_,hs=>hs
 | k+1,_,hs=>fun j=>u1m hv (y8h hv k hs) j
theorem z6b {D:MD} {sel:Int->Int->Bool} {v:Nat->ByteArray} (hv:∀ j,smS (v j)):∀ (q:Nat) {s:WS},(∀ j,smS (s.1 j))->∀ j,smS ((z2y D sel v q s).1 j)
 | 0,_,hs=>hs
 | q+1,s,hs=>fun j=>by
  show smS ((rowC D sel v q (z2y D sel v q s)).1 j);unfold rowC;split
  ·exact z6b hv q hs j
  exact y8h (hv q) _ (z6b hv q hs) j
theorem v1u {D:MD} {v:Nat->ByteArray} (hv:∀ j,smS (v j)):∀ (q:Nat) {s:ByteArray × Nat},smS s.1->smS (endC D v q s).1
 | 0,_,hs=>hs
 | q+1,s,hs=>by
  unfold endC;split
  ·exact v1u hv q hs
  exact y2x (z6u (hv q))
end
section
open Go.RowKit Go.Deep
def SumB (w:World) (sb:Nat) (k:Int) (e:Nat):Prop:=w.heap[sb]?=some (.cells #[.int .i64 k,.int .i64 (e:Int)] 149 (0,0))
theorem SumB.lt {w:World} {c e:Nat} {k:Int} (h:SumB w c k e):c<w.heap.size:=(Array.getElem?_eq_some_iff.1 h).1
theorem SumB.c0 {w:World} {c e:Nat} {k:Int} (h:SumB w c k e):w.cell? ⟨c,0,none⟩=some (.int .i64 k):=by unfold SumB at h;simp[World.cell?,h]
theorem SumB.c1 {w:World} {c e:Nat} {k:Int} (h:SumB w c k e):w.cell? ⟨c,1,none⟩=some (.int .i64 (e:Int)):=by unfold SumB at h;simp[World.cell?,h]
theorem SumB.fz {w:World} {c e:Nat} {k:Int} (h:SumB w c k e) (i:Nat):w.frozen? ⟨c,i,none⟩=false:=by unfold SumB at h;simp[World.frozen?,h]
theorem SumB.set {w:World} {c e:Nat} {k:Int} (h:SumB w c k e) (e':Nat):SumB (w.setCell ⟨c,1,none⟩ (.int .i64 (e':Int))) c k e':=by
 unfold SumB at *;simp[World.setCell,Array.getElem?_modify,h]
theorem SumB.kept {w d:World} {c e:Nat} {k:Int} (h:SumB w c k e) (hb:Below w.heap.size w d):SumB d c k e:=by
 unfold SumB at *;rw[hb.block c (Array.getElem?_eq_some_iff.1 h).1];exact h
def SumE (u:ByteArray) (sb:Nat) (k:Int) (e':Nat) (w:World) (r:Ending) (w':World):Prop:=r=.returned (.string u)/\SumB w' sb k e'/\w.grownBy w' (some sb)
def kpS (k:Int) (r:ByteArray × Nat):ByteArray:=if r.2≠0 then z0z k else r.1
theorem y9e (k:Int) (e g:Nat) (c:ByteArray) (n:Nat) (w:World) (i:SumB w g k e) :
  Calls prog 156 #[.pointer (some ⟨g,0,none⟩),.string c,.int .i64 (n:Int)] w (SumE (kpS k (c,n)) g k (kpE e (c,n)) w):=by
 have H:=i.c0;have G:=i.c1;have hf:=i.fz 1;have z:=fun B=>z2u k B;have A:=qh z;clear z;have u:=qh i;clear i;by_cases l:n=0
 ·subst l;unfold kpS kpE;rw[if_neg (by simp),if_neg (by simp)]
  go_enter func156,ntmps156
  go_wp2;go_ret;exact⟨rfl,u.out,x2i _ _⟩
 have C:((n:Int)==0)=false:=by simp;exact l
 unfold kpS kpE;rw[if_pos (show (c,n).2≠0 from l)];by_cases m:e=0
 ·subst m;rw[if_pos ⟨l,rfl⟩];have j:=u4w (x2i w (some g)) (p:=⟨g,1,none⟩) (.inl rfl) (.int .i64 (n:Int));have d:=u.out.set n;have E:=d.c0;have s:=qh j;clear j;have o:=qh d;clear d
  go_enter func156,ntmps156
  go_wp2_with fail
  refine(A.out _).mono ?_;rintro e F ⟨rfl,hb⟩;go_wp2;go_ret;exact⟨rfl,o.out.kept hb,z1g s.out (z0b hb _)⟩
 have D:((e:Int)==0)=false:=by simp;exact m
 rw[if_neg (fun h=>m h.2)]
 go_enter func156,ntmps156
 go_wp2_with fail
 refine(A.out _).mono ?_;rintro e F ⟨rfl,hb⟩;go_wp2;go_ret;exact⟨rfl,u.out.kept hb,z0b hb _⟩
theorem v1q (k:Int) (e j:Nat) (a b:ByteArray) (w:World) (z:a.size<=100000) (hb:b.size<=100000) (u:Tab w) (p:SumB w j k e) :
  Calls prog 132 #[.pointer (some ⟨j,0,none⟩),.string a,.string b] w (SumE (kpS k (z1k k a b)) j k (kpE e (z1k k a b)) w):=by
 have D:=p.c0;have m:=y2b k a b w (by omega) (by omega) u;clear u z hb;obtain⟨⟨c,n⟩,s⟩:∃ r,r=z1k k a b:=⟨_,rfl⟩;rw[<- s] at m ⊢;have A:=qh m;clear m s;have C:=qh p;clear p
 go_enter func132,ntmps132
 go_wp2_with fail
 refine A.out.mono ?_;rintro r B ⟨rfl,i⟩;have g:=qh i;clear i
 go_wp2_with fail
 refine(y9e k e j c n B (C.out.kept g.out)).mono ?_;rintro r E ⟨rfl,d,h⟩;have o:=qh d;clear d;have l:=qh h;clear h;go_wp2;go_ret;exact⟨rfl,o.out,z1g (z0b g.out _) l.out⟩
theorem x7d (k:Int) (e j:Nat) (a b:ByteArray) (w:World) (z:a.size<=100000) (hb:b.size<=100000) (u:Tab w) (p:SumB w j k e) :
  Calls prog 133 #[.pointer (some ⟨j,0,none⟩),.string a,.string b] w (SumE (kpS k (z0g k a b)) j k (kpE e (z0g k a b)) w):=by
 have D:=p.c0;have m:=z4h k a b w (by omega) (by omega) u;clear u z hb;obtain⟨⟨c,n⟩,s⟩:∃ r,r=z0g k a b:=⟨_,rfl⟩;rw[<- s] at m ⊢;have A:=qh m;clear m s;have C:=qh p;clear p
 go_enter func133,ntmps133
 go_wp2_with fail
 refine A.out.mono ?_;rintro r B ⟨rfl,i⟩;have g:=qh i;clear i
 go_wp2_with fail
 refine(y9e k e j c n B (C.out.kept g.out)).mono ?_;rintro r E ⟨rfl,d,h⟩;have o:=qh d;clear d;have l:=qh h;clear h;go_wp2;go_ret;exact⟨rfl,o.out,z1g (z0b g.out _) l.out⟩
theorem v0d (k:Int) (e j:Nat) (a:ByteArray) (w:World) (z:a.size<=100000) (u:Tab w) (p:SumB w j k e) :
  Calls prog 198 #[.pointer (some ⟨j,0,none⟩),.string a] w (SumE (kpS k (z5t k a)) j k (kpE e (z5t k a)) w):=by
 have D:=p.c0;have m:=x1j k a w (by omega) u;clear u z;obtain⟨⟨c,n⟩,s⟩:∃ r,r=z5t k a:=⟨_,rfl⟩;rw[<- s] at m ⊢;have A:=qh m;clear m s;have C:=qh p;clear p
 go_enter func198,ntmps198
 go_wp2_with fail
 refine A.out.mono ?_;rintro r B ⟨rfl,i⟩;have g:=qh i;clear i
 go_wp2_with fail
 refine(y9e k e j c n B (C.out.kept g.out)).mono ?_;rintro r E ⟨rfl,d,h⟩;have o:=qh d;clear d;have l:=qh h;clear h;go_wp2;go_ret;exact⟨rfl,o.out,z1g (z0b g.out _) l.out⟩
def OpE {k:KK} (F:Prop) (e sb:Nat) (z:RK k) (w:World) (r:Ending) (w':World):Prop :=
 ∃ u e',r=.returned (.string u)/\Is k e' u z/\Er F e'/\(e'=0->e=0)/\SumB w' sb k.1 e'/\w.grownBy w' (some sb)
theorem y8a {k:Int} {r:ByteArray × Nat} (h:r.1.size<=802):(kpS k r).size<=100000:=by
 unfold kpS;split
 ·exact z8q k
 omega
theorem y8u {k:Int} {e:Nat} {r:ByteArray × Nat} (h:kpE e r=0):kpS k r=r.1:=by
 unfold kpS;rw[if_neg (by rw[(y7e h).2];simp)]
theorem y3c {k:KK} {F:Prop} {e c:Nat} {a b:ByteArray} {x y:RK k} {w:World} (h:Is k e a x) (hb:Is k e b y) (i:Er F e) (s:F->fitV (x+y).1) (p:Tab w) (l:SumB w c k.1 e) :
  Calls prog 132 #[.pointer (some ⟨c,0,none⟩),.string a,.string b] w (OpE F e c (x+y) w):=by
 refine(v1q k.1 e c a b w h.1 hb.1 p l).mono ?_;rintro r u ⟨rfl,d,g⟩;obtain⟨o,m,j⟩:=x3b (v6a h hb) i s (y8a (k:=k.1) (x8e k.1 a b)) y8u;exact⟨_,_,rfl,o,m,j,d,g⟩
theorem y3h {k:KK} {F:Prop} {e c:Nat} {a b:ByteArray} {x y:RK k} {w:World} (h:Is k e a x) (hb:Is k e b y) (i:Er F e) (s:F->fitV (x*y).1) (p:Tab w) (l:SumB w c k.1 e) :
  Calls prog 133 #[.pointer (some ⟨c,0,none⟩),.string a,.string b] w (OpE F e c (x*y) w):=by
 refine(x7d k.1 e c a b w h.1 hb.1 p l).mono ?_;rintro r u ⟨rfl,d,g⟩;obtain⟨o,m,j⟩:=x3b (x1x h hb) i s (y8a (k:=k.1) (x3s k.1 a b)) y8u;exact⟨_,_,rfl,o,m,j,d,g⟩
theorem v7j {k:KK} {F:Prop} {e c:Nat} {a:ByteArray} {x:RK k} {w:World} (h:Is k e a x) (i:Er F e) (s:F->fitV (CSR.star x).1) (p:Tab w) (l:SumB w c k.1 e) :
  Calls prog 198 #[.pointer (some ⟨c,0,none⟩),.string a] w (OpE F e c (CSR.star x) w):=by
 refine(v0d k.1 e c a w h.1 p l).mono ?_;rintro r u ⟨rfl,d,g⟩;obtain⟨o,m,j⟩:=x3b (v6z h) i s (y8a (k:=k.1) (x6p k.1 a)) y8u;exact⟨_,_,rfl,o,m,j,d,g⟩
end
section
open Go.RowKit Go.Deep
theorem y9a:(prog.info? 9).map (fun i=>(i.zero,i.size,i.bytes))=some (some (.string ⟨#[]⟩),1,16):=by kernel_rfl
theorem y0d:(prog.info? 79).map (fun i=>(i.zero,i.size,i.bytes))=some (some (.slice none 0 0),1,24):=by kernel_rfl
theorem TabB.gr {d B:Nat} {w g:World} {z:Option Nat} (h:TabB d w) (c:Gr B z w g) (i:∀ k,z=some k->d<=k) (m:d<=B):TabB d g:=fun j hb =>
 h j (Below.trans ⟨c.os,c.tape,c.output,c.size,fun q l=>c.block q (by omega) (fun e=>by have:=i q e.symm;omega)⟩ hb)
structure Tb (w:World) (k:Int) (B tb sb g n e:Nat) (R:Nat->Value) (X:Nat->Nat->ByteArray):Prop where
 tab:w.heap[tb]?=some (.cells #[.pointer (some ⟨sb,0,none⟩),.slice (some ⟨g,0,none⟩) n n] 184 (0,0))
 sum:SumB w sb k e
 om:OM w (fun b=>b=tb) B 9 79 g n R (fun _=>n) X
 sbB:sb<B
 tbB:B<=tb
namespace Tb
variable {w w':World} {k:Int} {B tb sb g n e:Nat} {R:Nat->Value} {X:Nat->Nat->ByteArray}
theorem c0 (h:Tb w k B tb sb g n e R X):w.cell? ⟨tb,0,none⟩=some (.pointer (some ⟨sb,0,none⟩)):=by have:=h.tab;simp[World.cell?,this]
theorem c1 (h:Tb w k B tb sb g n e R X):w.cell? ⟨tb,1,none⟩=some (.slice (some ⟨g,0,none⟩) n n):=by have:=h.tab;simp[World.cell?,this]
theorem tbLt (h:Tb w k B tb sb g n e R X):tb<w.heap.size:=(Array.getElem?_eq_some_iff.1 h.tab).1
theorem kept {e':Nat} (h:Tb w k B tb sb g n e R X) (c:w.grownBy w' (some sb)) (i:SumB w' sb k e'):Tb w' k B tb sb g n e' R X :=
 ⟨by rw[c.block tb h.tbLt (by simp;have:=h.sbB;have:=h.tbB;omega)];exact h.tab,i,h.om.kept c (fun q d=>by cases d;exact h.sbB),h.sbB,h.tbB⟩
theorem below (h:Tb w k B tb sb g n e R X) (hb:Below w.heap.size w w'):Tb w' k B tb sb g n e R X:=h.kept (z0b hb _) (h.sum.kept hb)
theorem stored {i j b cap:Nat} (h:Tb w k B tb sb g n e R X) (hi:i<n) (d:j<n) (c:R i=.slice (some ⟨b,0,none⟩) n cap) (x:ByteArray) :
  Tb (w.setCell ⟨b,j,none⟩ (.string x)) k B tb sb g n e R (fun q l=>if q=i/\l=j then x else X q l):=by
 have hf:=h.om.far i hi b (by rw[c];rfl);have o:=(h.om.rowLt hi b (by rw[c];rfl)).1;refine⟨?_,?_,h.om.stored hi d c x,h.sbB,h.tbB⟩
 ·rw[blk_setCell_other _ _ _ _ (by show tb≠b;exact fun e=>hf.2 e.symm)];exact h.tab
 have m:=h.sum;unfold SumB at *;rw[blk_setCell_other _ _ _ _ (by show sb≠b;have:=h.sbB;omega)];exact m
end Tb
theorem x0q {wr wa:World} {Z:Nat->Prop} {B g n q k cap:Nat} {o:Nat->Value} {X:Nat->Nat->ByteArray} (h:OM wr Z B 9 79 g n o (fun l=>if l<q then n else 0) X) (z:q<n) (d:∀ l,q<=l->o l=.slice none 0 0)
  (c:wa.ownsRow B 9 1 (.slice (some ⟨k,0,none⟩) (0+n) cap) (0+n) ([]++strs n (X q))) (i:wr.drew.grownBy wa (Value.slice none 0 0).ownBlock) (m:(Value.slice none 0 0).ownBlock=some k\/k=wr.heap.size) :
  ∃ R3,OM (wa.setCell ⟨g,q,none⟩ (.slice (some ⟨k,0,none⟩) n cap)) Z B 9 79 g n R3 (fun l=>if l<q+1 then n else 0) X/\∀ l,q+1<=l->R3 l=.slice none 0 0:=by
 rw[Nat.zero_add,List.nil_append] at c;have e:=d q nlr;have u:=h.appended z (wa:=wr.drew) ⟨rfl,rfl,rfl,nlr,fun _ _ _=>rfl⟩ c (by rw[e];exact i) (by rw[e];exact m);refine⟨_,(u.congrL fun l p=>?_).congr fun l j p A=>?_,fun l p=>?_⟩
 ·by_cases e:l=q
  ·rw[if_pos e,if_pos (by omega)]
  rw[if_neg e];by_cases s:l<q
  ·rw[if_pos s,if_pos (by omega)]
  rw[if_neg s,if_neg (by omega)]
 ·by_cases e:l=q
  ·rw[if_pos e,e]
  rw[if_neg e]
 show (if l=q then _ else o l)=_
 rw[if_neg (by omega)];exact d l (by omega)
def Prog {k:KK} (e p n i j:Nat) (M:Nat->Nat->RK k) (X Y:Nat->Nat->ByteArray):Prop :=
 ∀ q l,q<n->l<n->if q<i\/(q=i/\l<j) then Is k e (Y q l) (CSR.elim p M q l) else Y q l=X q l
def MatIs {k:KK} (e n:Nat) (X:Nat->Nat->ByteArray) (M:Nat->Nat->RK k):Prop:=∀ q l,q<n->l<n->Is k e (X q l) (M q l)
theorem MatIs.mono {k:KK} {e e' n:Nat} {X:Nat->Nat->ByteArray} {M:Nat->Nat->RK k} (h:MatIs e n X M) (g:e'=0->e=0):MatIs e' n X M:=fun q l c d=>(h q l c d).mono g
theorem Prog.start {k:KK} (e p n:Nat) (M:Nat->Nat->RK k) (X:Nat->Nat->ByteArray):Prog e p n 0 0 M X X:=fun q l c d=>by rw[if_neg (by omega)]
theorem Prog.mono {k:KK} {e e' p n i j:Nat} {M:Nat->Nat->RK k} {X Y:Nat->Nat->ByteArray} (h:Prog e p n i j M X Y) (g:e'=0->e=0):Prog e' p n i j M X Y:=fun q l d m=>by
 have:=h q l d m
 split
 ·rename_i c;rw[if_pos c] at this;exact this.mono g
 rename_i c;rw[if_neg c] at this;exact this
theorem Prog.next {k:KK} {e p n i j:Nat} {M:Nat->Nat->RK k} {X Y:Nat->Nat->ByteArray} {u:ByteArray} (h:Prog e p n i j M X Y) (o:Is k e u (CSR.elim p M i j)):Prog e p n i (j+1) M X (fun q l=>if q=i/\l=j then u else Y q l):=fun q l d g=>by
 have:=h q l d g;by_cases c:q=i/\l=j
 ·obtain⟨rfl,rfl⟩:=c;rw[if_pos (by omega)];simpa using o
 simp only[if_neg c]
 split
 ·rename_i m;rw[if_pos (by omega)] at this;exact this
 rename_i m;rw[if_neg (by omega)] at this;exact this
theorem Prog.skip {k:KK} {e p n i j:Nat} {M:Nat->Nat->RK k} {X Y:Nat->Nat->ByteArray} (h:Prog e p n i j M X Y) (hi:i<n) (s:j<n) (m:Is k e (X i j) (CSR.elim p M i j)):Prog e p n i (j+1) M X Y:=fun q l c d=>by
 have:=h q l c d;by_cases o:q=i/\l=j
 ·obtain⟨rfl,rfl⟩:=o;rw[if_pos (by omega)];rw[if_neg (by omega)] at this;rw[this];exact m
 split
 ·rename_i g;rw[if_pos (by omega)] at this;exact this
 rename_i g;rw[if_neg (by omega)] at this;exact this
theorem Prog.row {k:KK} {e p n i:Nat} {M:Nat->Nat->RK k} {X Y:Nat->Nat->ByteArray} (h:Prog e p n i n M X Y):Prog e p n (i+1) 0 M X Y:=fun q l c d=>by
 have:=h q l c d
 split
 ·rename_i g;rw[if_pos (by omega)] at this;exact this
 rename_i g;rw[if_neg (by omega)] at this;exact this
theorem Prog.skipRow {k:KK} {e p n i:Nat} {M:Nat->Nat->RK k} {X Y:Nat->Nat->ByteArray} (h:Prog e p n i 0 M X Y) (hi:i<n) (j:∀ l,l<n->Is k e (X i l) (CSR.elim p M i l)):Prog e p n (i+1) 0 M X Y:=fun q l d c=>by
 have:=h q l d c;by_cases m:q=i
 ·subst m;rw[if_pos (by omega)];rw[if_neg (by omega)] at this;rw[this];exact j l c
 split
 ·rename_i g;rw[if_pos (by omega)] at this;exact this
 rename_i g;rw[if_neg (by omega)] at this;exact this
theorem Prog.done {k:KK} {e p n:Nat} {M:Nat->Nat->RK k} {X Y:Nat->Nat->ByteArray} (h:Prog e p n n 0 M X Y):MatIs e n Y (CSR.elim p M):=fun q l c d=>by
 have:=h q l c d;rwa [if_pos (by omega)] at this
theorem Prog.at {k:KK} {e p n i j:Nat} {M:Nat->Nat->RK k} {X Y:Nat->Nat->ByteArray} (h:Prog e p n i j M X Y) (hi:i<n) (c:j<n):Y i j=X i j:=by
 have:=h i j hi c;rwa [if_neg (by omega)] at this
theorem x3v {k:KK} {p i:Nat} {M:Nat->Nat->RK k} (h:M i p=CSR.zero) (l:Nat):CSR.elim p M i l=M i l:=by
 unfold CSR.elim;rw[h,CSR.zm,CSR.zm,CSR.a0]
theorem x4b {k:KK} {p j:Nat} {M:Nat->Nat->RK k} (h:M p j=CSR.zero) (i:Nat):CSR.elim p M i j=M i j:=by
 unfold CSR.elim;rw[h,CSR.m0,CSR.a0]
theorem Is.elim_l {k:KK} {e p n i:Nat} {M:Nat->Nat->RK k} {X:Nat->Nat->ByteArray} (c:MatIs e n X M) (hi:i<n) (g:p<n) (h:X i p=z0z k.1):∀ l,l<n->Is k e (X i l) (CSR.elim p M i l):=fun l d=>by
 refine⟨(c i l hi d).1,fun j=>?_⟩;subst j;rw[x3v ((c i p hi g).eq_zero.1 h)];exact(c i l hi d).2 rfl
theorem Is.elim_r {k:KK} {e p n i j:Nat} {M:Nat->Nat->RK k} {X:Nat->Nat->ByteArray} (d:MatIs e n X M) (hi:i<n) (g:p<n) (c:j<n) (h:X p j=z0z k.1):Is k e (X i j) (CSR.elim p M i j):=by
 refine⟨(d i j hi c).1,fun l=>?_⟩;subst l;rw[x4b ((d p j g c).eq_zero.1 h)];exact(d i j hi c).2 rfl
structure FitE {k:KK} (n p:Nat) (M:Nat->Nat->RK k):Prop where
 star:fitV (CSR.star (M p p)).1
 first:∀ i,i<n->fitV (M i p*CSR.star (M p p)).1
 second:∀ i j,i<n->j<n->fitV (M i p*CSR.star (M p p)*M p j).1
 sum:∀ i j,i<n->j<n->fitV (CSR.elim p M i j).1
def OverE {k:KK} (F:Prop) (B tb sb g n p e:Nat) (R:Nat->Value) (M:Nat->Nat->RK k) (w:World) (r:Ending) (w':World):Prop :=
 ∃ e' Y,r=.returned (.tuple #[])/\Tb w' k.1 B tb sb g n e' R Y/\MatIs e' n Y (CSR.elim p M)/\Er F e'/\(e'=0->e=0)/\Gr B (some sb) w w'
end
section
open Go.RowKit Go.Deep
theorem z6i (w:World) (z:Option Nat):w.grownBy w.drew z:=⟨rfl,rfl,rfl,nlr,fun _ _ _=>rfl⟩
theorem TabB.drew {B:Nat} {w:World} (h:TabB B w):TabB B w.drew:=fun c hb=>h c ((Below.refl B w).drew.trans hb)
theorem SumB.drew {w:World} {c e:Nat} {k:Int} (h:SumB w c k e):SumB w.drew c k e:=h
theorem keep4 {W g:World} {z:Option Nat} {a b c d:Addr} {u v x y:Value} (h:W.grownBy g z) (i:W.cell? a=some u) (hb:W.cell? b=some v) (j:W.cell? c=some x) (l:W.cell? d=some y)
  (na:some a.block≠z) (nb:some b.block≠z) (k:some c.block≠z) (m:some d.block≠z) :
  W.grownBy g z/\g.cell? a=some u/\g.cell? b=some v/\g.cell? c=some x/\g.cell? d=some y :=
 ⟨h,h.cell i na,h.cell hb nb,h.cell j k,h.cell l m⟩
theorem keep7 {W i:World} {z:Option Nat} {a b c d f g h:Addr} {u v x y r s t:Value} (j:W.grownBy i z) (k:W.cell? a=some u) (hb:W.cell? b=some v) (m:W.cell? c=some x) (A:W.cell? d=some y)
  (hf:W.cell? f=some r) (B:W.cell? g=some s) (hi:W.cell? h=some t)
  (na:some a.block≠z) (nb:some b.block≠z) (o:some c.block≠z) (C:some d.block≠z) (nf:some f.block≠z) (p:some g.block≠z) (l:some h.block≠z) :
  i.cell? a=some u/\i.cell? b=some v/\i.cell? c=some x/\i.cell? d=some y/\i.cell? f=some r/\i.cell? g=some s/\i.cell? h=some t :=
 ⟨j.cell k na,j.cell hb nb,j.cell m o,j.cell A C,j.cell hf nf,j.cell B p,j.cell hi l⟩
theorem keep7s {i:World} {o:Addr} {q:Value} {a b c d f g h:Addr} {u v x y r s t:Value}
  (z:i.cell? a=some u/\i.cell? b=some v/\i.cell? c=some x/\i.cell? d=some y/\i.cell? f=some r/\i.cell? g=some s/\i.cell? h=some t)
  (na:o.block≠a.block) (nb:o.block≠b.block) (A:o.block≠c.block) (E:o.block≠d.block) (nf:o.block≠f.block) (C:o.block≠g.block) (k:o.block≠h.block) :
  (i.setCell o q).cell? a=some u/\(i.setCell o q).cell? b=some v/\(i.setCell o q).cell? c=some x/\(i.setCell o q).cell? d=some y/\(i.setCell o q).cell? f=some r/\(i.setCell o q).cell? g=some s/\(i.setCell o q).cell? h=some t:=by
 obtain⟨F,D,m,p,B,l,j⟩:=z;refine⟨?_,?_,?_,?_,?_,?_,?_⟩
 ·rw[World.cell?_setCell_other _ _ _ _ (fun e=>na (by rw[e]))];exact F
 ·rw[World.cell?_setCell_other _ _ _ _ (fun e=>nb (by rw[e]))];exact D
 ·rw[World.cell?_setCell_other _ _ _ _ (fun e=>A (by rw[e]))];exact m
 ·rw[World.cell?_setCell_other _ _ _ _ (fun e=>E (by rw[e]))];exact p
 ·rw[World.cell?_setCell_other _ _ _ _ (fun e=>nf (by rw[e]))];exact B
 ·rw[World.cell?_setCell_other _ _ _ _ (fun e=>C (by rw[e]))];exact l
 rw[World.cell?_setCell_other _ _ _ _ (fun e=>k (by rw[e]))];exact j
theorem x7u {w:World} {b n:Nat} {X:Nat->ByteArray} (h:∀ j,j<n->w.cell? ⟨b,j,none⟩=some (.string (X j))):∀ j u,(strs n X)[j]?=some u->w.cell? ((⟨b,0,none⟩:Addr).add j)=some u:=by
 intro j u c;have g:j<n:=by
  rcases Nat.lt_or_ge j n with d|d
  ·exact d
  rw[List.getElem?_eq_none (by rw[z5h];exact d)] at c;cases c
 rw[z4t _ _ _ g] at c;cases c;rw[Addr.add_lit,Nat.zero_add];exact h j g
theorem toList_eq {a b:ByteArray} (h:(a.toList==b.toList)=true):a=b:=by
 rw[beq_iff_eq,Lib.toList_data,Lib.toList_data] at h;exact ByteArray.ext (Array.toList_inj.1 h)
theorem v6v {k:KK} {F:Prop} {B0 B tb E g n p e:Nat} {R:Nat->Value} {X:Nat->Nat->ByteArray} {M:Nat->Nat->RK k} {w:World} (x:Value) (hn:n<=60) (S:p<n)
  (hT:Tb w k.1 B tb E g n e R X) (hX:MatIs e n X M) (he:Er F e) (hF:F->FitE n p M) (ht:TabB B0 w) (hB:B0<=E) :
  Calls prog 183 #[.pointer (some ⟨tb,0,none⟩),.int .i64 (p:Int),x] w (OverE F B tb E g n p e R M w):=by
 have t0:=hT.c0;have s0:=hT.sum.c0;have r8:(p:Int)<(n:Int):=by omega
 have r7:(0:Int)<=(p:Int):=by omega
 have D:=qh hT;clear hT;have HX:=qh hX;clear hX;have HE:=qh he;clear he;have HF:=qh hF;clear hF;have C:=qh ht;clear ht;have hz:=fun wx=>z2u k.1 wx;have HZ:=qh hz;clear hz
 go_enter func183,ntmps183
 go_wp2_with fail
 refine(HZ.out _).mono ?_;rintro r w1 ⟨rfl,b0⟩;clear t0 s0;have I:=D.out.below b0;have d2:TabB B0 w1:=C.out.kept (z:=none) (z0b b0 _) (by simp) (by have:=D.out.sum.lt;omega);have h9:Gr B (some E) w w1:=(Gr.refl _ _ _).more (z0b b0 none) (by have:=D.out.om.lt;have:=D.out.om.base;omega) (by simp);clear b0;have t0:=I.c0;have t1:=I.c1;obtain⟨bp,cp,j9,k4,f8,l1,k9,k5,b3,k6,a6⟩:=I.om.form S (by omega);unfold maxLen at b3;have g0:=I.om.cell S;rw[j9] at g0;have g1:=a6 p S;have sbB:=I.sbB;have tbB:=I.tbB;have gB:=I.om.base;have HK:=qh (fun A (hg:w1.grownBy A (some E))=>keep4 hg t0 t1 g0 g1 (by simp;omega) (by simp;omega) (by simp;omega) (by simp;omega));have Z:=qh I;clear I;have W:=qh d2;clear d2 C;have e9:=qh h9;clear h9 D;have H:=z6i w1 (some E);clear a6 l1 k9 f8 k6
 go_wp2_with fail
 go_region_held2 (fun A=>w1.grownBy A (some E)/\A.cell? ⟨tb,0,none⟩=some (.pointer (some ⟨E,0,none⟩))/\A.cell? ⟨tb,1,none⟩=some (.slice (some ⟨g,0,none⟩) n n) /\
   A.cell? ⟨g,p,none⟩=some (.slice (some ⟨bp,0,none⟩) n cp)/\A.cell? ⟨bp,p,none⟩=some (.string (X p p)))
  (first|exact HK.out _ (by assumption))
  (first
  | (go_at_call 198;refine(v7j (HX.out p p S S) HE.out (fun f=>(HF.out f).star) W.out.drew.tab Z.out.sum.drew).mono ?_;rintro r G ⟨lp,e2,rfl,j1,h5,d3,i2,h6⟩;have a9:=z1g H h6))
 rename_i hH;clear hH g0 g1 t0 t1;have a8:=Z.out.kept a9 i2;have b4:TabB B0 G:=W.out.kept a9 (by intro q hq;cases hq;exact hB) (by have:=Z.out.sum.lt;omega);have g2:Gr B (some E) w G:=e9.out.more a9 (by have:=Z.out.tbLt;omega) (fun _ e=>.inl e);have g7:=HX.out.mono d3;clear a9 h6 H i2;have t1:=a8.c1;have m3:=a8.om.lt;have L:=qh a8;clear a8 Z HK;have b7:=qh b4;clear b4 W;have j2:=qh g2;clear g2 e9;have U:=qh g7;clear g7 HX;have p8:=qh j1;clear j1;have m4:=qh h5;clear h5 HE;have m2:=qh d3;clear d3;clear j9 k4 k5 b3;have m7:=run_make_row' (P:=prog) 75 79 (.slice none 0 0) 24 underlying75 y0d rfl .i64 .i64 n (by omega) (by omega);have a7:OM (G.alloc (.cells (madeCells #[.slice none 0 0] n) 79)) (fun _=>False) G.heap.size 9 79 G.heap.size n (fun _=>.slice none 0 0) (fun q=>if q<0 then n else 0) X :=
  (OM.made G (fun _=>False) (by simp) G.heap.size nlr 9 79 n X).congrL (fun _ _=>by simp)
 have J:=qh a7;clear a7;have h4:=qh ((Below.refl G.heap.size G).alloc nlr (.cells (madeCells #[.slice none 0 0] n) 79))
 go_wp2_with fail
 clear m7 t1
 go_loopw [44] (fun i wr=>∃ (q:Nat) (R2:Nat->Value),q<=n/\i=.int .i64 (q:Int)/\OM wr (fun _=>False) G.heap.size 9 79 G.heap.size n R2 (fun l=>if l<q then n else 0) X /\
  (∀ l,q<=l->R2 l=.slice none 0 0)/\Below G.heap.size G wr) (fun i _=>n-(intOf i).toNat)
 case atStart=>exact⟨0,_,Nat.zero_le _,rfl,J.out,fun _ _=>rfl,h4.out⟩
 obtain⟨q,R2,hq,rfl,a7,b8,f1⟩:=hrel;clear J h4;have J:=qh a7;clear a7;have d6:=qh b8;clear b8;have K:=qh f1;clear f1;by_cases m:q<n
 ·have s5:(q:Int)<(n:Int):=by omega
  have r6:(0:Int)<=(q:Int):=by omega
  have a3:=L.out.below K.out;obtain⟨bq,cq,l5,k4,f8,l1,k9,k5,b3,k6,a6⟩:=a3.om.form m (by omega);unfold maxLen at b3;have t1:=a3.c1;have g0:=a3.om.cell m;rw[l5] at g0;have o0:=J.out.cell m;rw[d6.out q nlr] at o0;have t7:=qh a3;clear a3;have l4:=qh a6;clear a6;have HK:=qh (fun A (hg:wr.grownBy A none)=>keep4 hg t1 g0 o0 o0 (by simp) (by simp) (by simp) (by simp));have H:=z6i wr none;have p7:=J.out.lt;have o2:=K.out.size;obtain⟨i0,p6,l8,l7,d7⟩:=info_parts y9a
  go_wp2_with fail
  have d0:wr.drew.cell? ⟨G.heap.size,q,none⟩=some (.slice none 0 0):=o0;have o3:=qh (show ∀ j,j<n->wr.drew.cell? ⟨bq,j,none⟩=some (.string (X q j)) from l4.out)
  go_region_law
   (first
   | (
     refine step_append_lies _ rfl (.tmp 52) (.tmp 59) 79 rfl G.heap.size 9 i0 (.string ⟨#[]⟩) 1 16 underlying79 p6 l8 l7 d7 rfl (by omega) (.slice none 0 0) 0 [] rfl (World.ownsRow_nil _ _ _ _) ⟨bq,0,none⟩ n cq (strs n (X q)) rfl (by rw[z5h,Nat.mul_one])
      (x7u o3.out) (x0a _ _) (by omega) (by unfold maxLen;omega) (by omega) o2 wr.heap.size rfl ?_
     intro go s8 wa i5 N o6 q7;have j5:=z1g H N;have v0:=(j5.frozen_far ⟨G.heap.size,q,none⟩ p7 (by simp)).trans (J.out.frozen q);have l6:=j5.cell o0 (by simp)))
  all_goals
   go_wp2;go_roundw
   case rel =>
    obtain⟨R3,h1,h2⟩:=x0q J.out m d6.out i5 N o6;exact⟨q+1,R3,by omega,by go_num,h1,h2,((K.out.drew).grown N (by show G.heap.size<=wr.heap.size;omega) (by simp[Value.ownBlock])).setCell nlr _⟩
   simp[intOf];omega
 have l9:q=n:=by omega
 subst l9;have e8:OM wr (fun _=>False) G.heap.size 9 79 G.heap.size q R2 (fun _=>q) X:=J.out.congrL fun l hl=>by rw[if_pos hl]
 have i9:¬ ((q:Int)<(q:Int)):=by omega
 clear J d6;have l0:=qh e8;clear e8;have f9:=L.out.below K.out;have b5:TabB B0 wr:=b7.out.kept (z:=none) (z0b K.out _) (by simp) (by have:=L.out.sum.lt;omega);have g8:Gr B (some E) w wr:=j2.out.more (z0b K.out none) (by have:=L.out.tbLt;omega) (by simp);have u2:g<G.heap.size:=m3;have q9:tb<G.heap.size:=L.out.tbLt;have h0:=fun (i:Nat) (hi:i<q) (b:Nat) (hb:(R i).ownBlock=some b)=>(L.out.om.rowLt hi b hb).2;have n3:=qh h0;clear h0;have j3:=qh f9;clear f9 L;have c7:=qh b5;clear b5 b7;have i6:=qh g8;clear g8 j2;have s7:=K.out.size;clear K;generalize hB2:G.heap.size=B2 at *;clear hB2;obtain⟨Z0,d9⟩:=exq (z0z k.1);rw[<- d9];have g9:=qh d9;clear d9
 go_wp2_with fail
 go_loopw [65] (fun i wr=>∃ (c e3:Nat) (Y:Nat->Nat->ByteArray),c<=q/\i=.int .i64 (c:Int)/\Tb wr k.1 B tb E g q e3 R Y/\Prog e3 p q c 0 M X Y /\
  OM wr (fun _=>False) B2 9 79 B2 q R2 (fun _=>q) X/\Er F e3/\(e3=0->e2=0)/\TabB B0 wr/\Gr B (some E) w wr) (fun i _=>q-(intOf i).toNat)
 case atStart=>exact⟨0,e2,X,Nat.zero_le _,rfl,j3.out,Prog.start _ _ _ _ _,l0.out,m4.out,fun h=>h,c7.out,i6.out⟩
 obtain⟨c,e3,Y,t9,rfl,hT,hP,hO,hE,hm,a2,hG⟩:=hrel;clear j3 c7 i6 l0;have D:=qh hT;clear hT;have HP:=qh hP;clear hP;have Q:=qh hO;clear hO;have HE:=qh hE;clear hE;have O:=qh hm;clear hm;have C:=qh a2;clear a2;have HG:=qh hG;clear hG;by_cases m:c<q
 ·have u3:(c:Int)<(q:Int):=by omega
  have r4:(0:Int)<=(c:Int):=by omega
  obtain⟨oc,uc,d4,s9,l6,u7,_,u8,p9,k1,d8⟩:=Q.out.form m (by omega);unfold maxLen at p9;have o0:=Q.out.cell m;rw[d4] at o0;have o1:=d8 p S;have u4:=qh d8;clear d8;have t8:=qh k1;clear k1;have j0:=qh d4;clear d4;cases hz:((X c p).toList==Z0.toList)
  ·-- the row is touched
   have k3:=D.out;have t0:=k3.c0;have HK:=qh (fun A (hg:World.grownBy _ A (some E))=>keep4 hg t0 o0 o1 o1 (by simp;omega) (by simp;omega) (by simp;omega) (by simp;omega));clear k3;have H:=z6i wr (some E)
   go_wp2_with fail
   go_region_held2 (fun A=>wr.grownBy A (some E)/\A.cell? ⟨tb,0,none⟩=some (.pointer (some ⟨E,0,none⟩))/\A.cell? ⟨B2,c,none⟩=some (.slice (some ⟨oc,0,none⟩) q uc) /\
     A.cell? ⟨oc,p,none⟩=some (.string (X c p))/\A.cell? ⟨oc,p,none⟩=some (.string (X c p)))
    (first|exact HK.out _ (by assumption))
    (first
    | (go_at_call 133;refine(y3h ((U.out c p m S).mono O.out) (p8.out.mono O.out) HE.out (fun f=>(HF.out f).first c m) C.out.drew.tab D.out.sum.drew).mono ?_;rintro r w4 ⟨fs,e4,rfl,k2,f0,d5,g4,h3⟩;have a4:=z1g H h3))
   rename_i hH;clear hH;have f4:=D.out.kept a4 g4;have c8:TabB B0 w4:=C.out.kept a4 (by intro q hq;cases hq;exact hB) (by have:=D.out.sum.lt;omega);have g6:Gr B (some E) w w4:=HG.out.more a4 (by have:=D.out.tbLt;omega) (fun _ e=>.inl e);have h8:=Q.out.kept a4 (by intro k hk;cases hk;omega);have f5:=HP.out.mono d5;have g3:e4=0->e2=0:=fun h=>O.out (d5 h);clear a4 h3 H g4 d5 t0 o0 o1;have i3:=qh f4;clear f4 D;have d1:=qh c8;clear c8 C;have k7:=qh g6;clear g6 HG;have j6:=qh h8;clear h8 Q HK;have i8:=qh f5;clear f5 HP;have b1:=qh g3;clear g3 O;have g5:=qh f0;clear f0 HE;have o7:=qh k2;clear k2
   go_wp2_with fail
   go_loopw [92] (fun i wr=>∃ (d e5:Nat) (Y:Nat->Nat->ByteArray),d<=q/\i=.int .i64 (d:Int)/\Tb wr k.1 B tb E g q e5 R Y/\Prog e5 p q c d M X Y /\
    OM wr (fun _=>False) B2 9 79 B2 q R2 (fun _=>q) X/\Er F e5/\(e5=0->e4=0)/\TabB B0 wr/\Gr B (some E) w wr) (fun i _=>q-(intOf i).toNat)
   case atStart=>exact⟨0,e4,Y,Nat.zero_le _,rfl,i3.out,i8.out,j6.out,g5.out,fun h=>h,d1.out,k7.out⟩
   obtain⟨d,e5,Y,u0,rfl,hT,hP,hO,hE,hm,a2,hG⟩:=hrel;clear i3 d1 k7 j6 i8 g5;have D:=qh hT;clear hT;have HP:=qh hP;clear hP;have Q:=qh hO;clear hO;have HE:=qh hE;clear hE;have O:=qh hm;clear hm;have C:=qh a2;clear a2;have HG:=qh hG;clear hG;by_cases s:d<q
   ·have s6:(d:Int)<(q:Int):=by omega
    have r2:(0:Int)<=(d:Int):=by omega
    obtain⟨op,up,b6,v3,u1,s3,_,s4,l2,k0,c9⟩:=Q.out.form S (by omega);unfold maxLen at l2;have o0:=Q.out.cell S;rw[b6] at o0;have o1:=c9 d s;clear k0 c9 b6;cases d7:((X p d).toList==Z0.toList)
    ·-- the element is touched
     have a0:=Q.out.cell m;rw[j0.out] at a0;obtain⟨m8,o9,T,_,r5,_,_,_,_,_,b9⟩:=Q.out.form m (by omega);rw[j0.out] at T;obtain⟨rfl,rfl⟩:oc=m8/\uc=o9:=by simpa using T
     have a1:=b9 d s;clear b9 T;obtain⟨bc,cc,b2,j8,e1,r3,q8,r9,n6,f7,i4⟩:=D.out.om.form m (by omega);unfold maxLen at n6;have r0:=D.out.om.cell m;rw[b2] at r0;have r1:=i4 d s;have rf:=f7 d;have t0:=D.out.c0;have t1:=D.out.c1;have j7:bc<B2:=n3.out c m bc (by rw[b2];rfl);have HK:=qh (fun A (hg:World.grownBy _ A (some E))=>keep7 hg t0 t1 r0 a0 a1 o0 o1 (by simp;omega) (by simp;omega) (by simp;omega) (by simp;omega) (by simp;omega) (by simp;omega) (by simp;omega));have n5:=qh (fun A u (hg:World.grownBy _ A (some E))=>keep7s (o:=⟨bc,d,none⟩) (q:=.string u) (HK.out A hg) (by simp;omega) (by simp;omega) (by simp;omega) (by simp;omega) (by simp;omega) (by simp;omega) (by simp;omega));have n9:=qh b2;clear b2;clear f7 i4;have H:=z6i wr (some E)
     go_wp2_with fail
     go_region_held2 (fun A=>A.cell? ⟨tb,0,none⟩=some (.pointer (some ⟨E,0,none⟩))/\A.cell? ⟨tb,1,none⟩=some (.slice (some ⟨g,0,none⟩) q q)/\A.cell? ⟨g,c,none⟩=some (.slice (some ⟨bc,0,none⟩) q cc) /\
       A.cell? ⟨B2,c,none⟩=some (.slice (some ⟨oc,0,none⟩) q uc)/\A.cell? ⟨oc,d,none⟩=some (.string (X c d))/\A.cell? ⟨B2,p,none⟩=some (.slice (some ⟨op,0,none⟩) q up)/\A.cell? ⟨op,d,none⟩=some (.string (X p d)))
      (first|exact HK.out _ (by assumption)|exact n5.out _ _ (by assumption))
      (first
      | (go_at_call 133;refine(y3h (o7.out.mono O.out) ((U.out p d S s).mono (fun h=>b1.out (O.out h))) HE.out (fun f=>(HF.out f).second c d m s) C.out.drew.tab D.out.sum.drew).mono ?_;rintro r w5 ⟨u5,e6,rfl,l3,m9,e0,o4,o8⟩;have j4:=z1g H o8)
      | (go_at_call 132;refine(y3c ((U.out c d m s).mono (fun h=>b1.out (O.out (e0 h)))) l3 m9 (fun f=>(HF.out f).sum c d m s) (C.out.kept j4 (by intro q hq;cases hq;exact hB) (by have:=D.out.sum.lt;omega)).tab o4).mono ?_;rintro r w6 ⟨u6,e7,rfl,p0,n7,h7,o5,m5⟩;have a5:=z1g j4 m5;have v2:=(a5.frozen_far ⟨bc,d,none⟩ e1 (by simp;omega)).trans rf;have u9:=a5.cell r1 (by simp;omega)))
     rename_i hH;clear hH;go_wp2;go_roundw
     case rel =>
      have f2:=((Gr.refl B (some E) wr).more a5 (by have:=D.out.tbLt;omega) (fun _ e=>.inl e)).set (p:=⟨bc,d,none⟩) (.inr j8) (.string u6);exact⟨d+1,e7,_,by omega,by go_num,(D.out.kept a5 o5).stored m s n9.out u6,(HP.out.mono (fun h=>e0 (h7 h))).next p0,
       (Q.out.kept a5 (by intro k hk;cases hk;omega)).other (.inr j7) _,n7,fun h=>O.out (e0 (h7 h)),C.out.gr f2 (by intro q hq;cases hq;exact hB) (by omega),HG.out.trans f2⟩
     simp[intOf];omega
    go_wp2;go_roundw
    case rel =>
     exact⟨d+1,e5,Y,by omega,by go_num,D.out,HP.out.skip m s (Is.elim_r (U.out.mono (fun h=>b1.out (O.out h))) m S s ((toList_eq d7).trans g9.out)),Q.out,HE.out,O.out,C.out,HG.out⟩
    simp[intOf];omega
   have f3:d=q:=by omega
   subst f3;have i9:¬ ((d:Int)<(d:Int)):=by omega
   go_wp2;go_roundw
   case rel =>
    exact⟨c+1,e5,Y,by omega,by go_num,D.out,HP.out.row,Q.out,HE.out,fun h=>b1.out (O.out h),C.out,HG.out⟩
   simp[intOf];omega
  go_wp2;go_roundw
  case rel =>
   have hX:=U.out.mono O.out;exact⟨c+1,e3,Y,by omega,by go_num,D.out,HP.out.skipRow m (Is.elim_l hX m S ((toList_eq hz).trans g9.out)),Q.out,HE.out,O.out,C.out,HG.out⟩
  simp[intOf];omega
 have i7:c=q:=by omega
 subst i7;have i9:¬ ((c:Int)<(c:Int)):=by omega
 go_wp2_with fail
 go_end0
 exact⟨e3,Y,rfl,D.out,HP.out.done,HE.out,fun h=>m2.out (O.out h),HG.out⟩
end
end Go.Proofs.YteappjogmnogcaaGreatDoor
