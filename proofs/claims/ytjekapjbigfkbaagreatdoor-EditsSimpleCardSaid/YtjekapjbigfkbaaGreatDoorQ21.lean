/- Parts of a proof: OwM EdG. -/
import Derived.Test.YtjekapjbigfkbaaGreatDoorQ20
import Derived.Test.YtjekapjbigfkbaaGreatDoorQ17
namespace Go.Proofs.YtjekapjbigfkbaaGreatDoor
open Go Go.RowKit Go.Deep
set_option maxRecDepth 100000
set_option linter.unusedSimpArgs false
def cat (c:Nat→List Value) (n:Nat):List Value:=(List.range n).flatMap c
theorem cat_succ (c:Nat→List Value) (n:Nat):cat c (n+1)=cat c n++c n:=by unfold cat;rw [List.range_succ,List.flatMap_append];simp
theorem cat_len {c:Nat→List Value} {s:Nat} (hc:∀ i,(c i).length=s):∀ n,(cat c n).length=n*s
 | 0=>by simp [cat]
 | n+1=>by rw [cat_succ,List.length_append,cat_len hc n,hc n,Nat.add_mul,Nat.one_mul]
theorem cat_congr {c d:Nat→List Value}:∀ {n:Nat},(∀ i,i < n→c i=d i)→cat c n=cat d n
 | 0,_=>rfl
 | n+1,h=>by rw [cat_succ,cat_succ,cat_congr (fun i hi=>h i (by omega)),h n (by omega)]
theorem cat_get {c:Nat→List Value} {s:Nat} (hc:∀ i,(c i).length=s) {i j:Nat} (hj:j < s):∀ {n:Nat},i < n→(cat c n)[i*s+j]?=(c i)[j]?
 | 0,h=>by omega
 | n+1,h=>by
  rw [cat_succ]
  by_cases e:i=n
  ·subst e
   rw [List.getElem?_append_right (by rw [cat_len hc];omega),cat_len hc,Nat.add_sub_cancel_left]
  ·have h1:i < n:=by omega
   have h2:i*s+j < n*s:=Nat.lt_of_lt_of_le (by rw [Nat.add_lt_add_iff_left];exact hj:i*s+j < i*s+s) (by rw [← Nat.succ_mul];exact Nat.mul_le_mul_right s h1)
   rw [List.getElem?_append_left (by rw [cat_len hc];exact h2)];exact cat_get hc hj h1
theorem cat_set {c:Nat→List Value} {s:Nat} (hc:∀ i,(c i).length=s) {i j:Nat} (hj:j < s) (x:Value):∀ {n:Nat},i < n→(cat c n).set (i*s+j) x=cat (fun k=>if k=i then (c i).set j x else c k) n
 | 0,h=>by omega
 | n+1,h=>by
  rw [cat_succ,cat_succ]
  by_cases e:i=n
  ·subst e
   rw [List.set_append_right _ _ (by rw [cat_len hc];omega),cat_len hc,Nat.add_sub_cancel_left,if_pos rfl]
   congr 1
   exact cat_congr fun k hk=>by rw [if_neg (by omega)]
  ·have h1:i < n:=by omega
   have h2:i*s+j < n*s:=Nat.lt_of_lt_of_le (by rw [Nat.add_lt_add_iff_left];exact hj:i*s+j < i*s+s) (by rw [← Nat.succ_mul];exact Nat.mul_le_mul_right s h1)
   rw [List.set_append_left _ _ (by rw [cat_len hc];exact h2),cat_set hc hj x h1,if_neg (fun e2=>e e2.symm)]
theorem row_set {w:World} {B:Nat} {e:TypeId} {s g n cap:Nat} {xs:List Value} (h:w.ownsRow B e s (.slice (some ⟨g,0,none⟩) n cap) n xs) (o:Nat) (x:Value) :
  (w.setCell ⟨g,o,none⟩ x).ownsRow B e s (.slice (some ⟨g,0,none⟩) n cap) n (xs.set o x):=by
 refine ⟨by rw [List.length_set];exact h.1,?_⟩
 rcases h.2 with ⟨hv,_⟩ | ⟨g',cap',cur,hv,h0,hgg,h1,h2,h3,h4⟩
 ·cases hv
 ·cases hv
  refine .inr ⟨g,cap,cur.setIfInBounds o x,rfl,h0,by simp [World.setCell,Array.getElem?_modify,hgg],h1,h2,by simpa using h3,?_⟩
  rw [Array.toList_setIfInBounds,List.take_set,h4]
theorem row_cell {w:World} {B:Nat} {e:TypeId} {s g n cap o:Nat} {xs:List Value} {x:Value} (h:w.ownsRow B e s (.slice (some ⟨g,0,none⟩) n cap) n xs) (hx:xs[o]?=some x):w.cell? ⟨g,o,none⟩=some x:=by
 have:=World.ownsRow.cells h (g:=g) rfl o _ hx
 rw [Addr.add_lit,Nat.zero_add] at this
 exact this
theorem row_free {w:World} {B:Nat} {e:TypeId} {s g n cap:Nat} {xs:List Value} (h:w.ownsRow B e s (.slice (some ⟨g,0,none⟩) n cap) n xs) (o:Nat):w.frozen? ⟨g,o,none⟩=false:=by
 rcases h.2 with ⟨hv,_⟩ | ⟨g',cap',cur,hv,h0,hgg,_⟩
 ·cases hv
 ·cases hv;simp [World.frozen?,hgg]
theorem row_shape {w:World} {B:Nat} {e:TypeId} {s n:Nat} {v:Value} {xs:List Value} (h:w.ownsRow B e s v n xs) (hn:0 < n):∃ g cap,v=.slice (some ⟨g,0,none⟩) n cap∧B≤g∧g < w.heap.size∧n≤cap∧cap≤maxLen:=by
 rcases h.2 with ⟨_,h0⟩ | ⟨g,cap,cur,rfl,h0,hgg,h1,h2,_⟩
 ·omega
 ·exact ⟨g,cap,rfl,h0,(Array.getElem?_eq_some_iff.1 hgg).1,h1,h2⟩
theorem row_any {w:World} {B:Nat} {e:TypeId} {s n:Nat} {v:Value} {xs:List Value} (h:w.ownsRow B e s v n xs):∃ a cap,v=.slice a n cap∧n≤cap∧cap≤maxLen:=by
 rcases h.2 with ⟨rfl,h0⟩ | ⟨g,cap,cur,rfl,h0,hgg,h1,h2,_⟩
 ·exact ⟨none,0,by rw [h0],by omega,Nat.zero_le _⟩
 ·exact ⟨_,cap,rfl,h1,h2⟩
theorem rows_ne {w:World} {B B':Nat} {e e':TypeId} {s s' n n':Nat} {v v':Value} {xs xs':List Value} (h:w.ownsRow B e s v n xs) (h':w.ownsRow B' e' s' v' n' xs') (he:e≠e') {b:Nat} (hb:v.ownBlock=some b):v'.ownBlock≠some b:=by
 rcases h.2 with ⟨rfl,_⟩ | ⟨g,cap,cur,rfl,_,hgg,_⟩
 ·cases hb
 ·rcases h'.2 with ⟨rfl,_⟩ | ⟨g',cap',cur',rfl,_,hgg',_⟩
  ·simp [Value.ownBlock]
  ·simp [Value.ownBlock] at hb ⊢;intro e1;subst hb;subst e1;rw [hgg] at hgg';simp at hgg';exact he hgg'.2
theorem row_kept {w w':World} {B:Nat} {e:TypeId} {s n:Nat} {v:Value} {xs:List Value} {z:Option Nat} (h:w.ownsRow B e s v n xs) (hg:w.grownBy w' z) (hz:∀ b,v.ownBlock=some b→z≠some b):w'.ownsRow B e s v n xs :=
 World.ownsRow.kept h hg (by
  cases hv:v.ownBlock with
  | none=>exact .inl rfl
  | some b=>exact .inr (fun e=>hz b hv e.symm))
theorem row_other {w:World} {B:Nat} {e:TypeId} {s n:Nat} {v:Value} {xs:List Value} (h:w.ownsRow B e s v n xs) {p:Addr} (hp:v.ownBlock≠some p.block) (x:Value):(w.setCell p x).ownsRow B e s v n xs :=
 row_kept h (z:=some p.block) ⟨rfl,rfl,rfl,by simp,fun q _ hq=>blk_setCell_other _ _ _ _ (fun e=>hq (by rw [e]))⟩ (fun b hb e=>hp (by rw [hb,e]))
def arc4 (D:MD) (i k:Nat):List Value:=[.int .i64 (D.ain i k),.int .i64 (D.aout i k),.string (D.aw i k),.int .i64 (D.ato i k)]
def st2 (D:MD) (R:Nat→Value) (i:Nat):List Value:=[.string (D.fin i),R i]
structure OwM (w:World) (B:Nat) (sv:Value) (D:MD) (R:Nat→Value):Prop where
 top:w.ownsRow B 87 2 sv D.n (cat (st2 D R) D.n)
 row:∀ i,i < D.n→w.ownsRow B 83 4 (R i) (D.na i) (cat (arc4 D i) (D.na i))
 apart:∀ i j,i < D.n→j < D.n→i≠j→∀ b,(R i).ownBlock=some b→(R j).ownBlock≠some b
def emptyD (kd:Int) (start:Int) (lead:ByteArray):MD:=⟨kd,start,lead,0,fun _=>⟨#[]⟩,fun _=>0,fun _ _=>0,fun _ _=>0,fun _ _=>⟨#[]⟩,fun _ _=>0⟩
def MD.state (D:MD) (f:ByteArray):MD:={ D with n:=D.n+1,fin:=fun i=>if i=D.n then f else D.fin i,na:=fun i=>if i=D.n then 0 else D.na i }
def MD.arc (D:MD) (q:Nat) (a b:Int) (x:ByteArray) (t:Int):MD :=
 { D with
  na:=fun i=>if i=q then D.na q+1 else D.na i
  ain:=fun i k=>if i=q∧k=D.na q then a else D.ain i k
  aout:=fun i k=>if i=q∧k=D.na q then b else D.aout i k
  aw:=fun i k=>if i=q∧k=D.na q then x else D.aw i k
  ato:=fun i k=>if i=q∧k=D.na q then t else D.ato i k }
theorem arc4_len (D:MD) (i k:Nat):(arc4 D i k).length=4:=rfl
theorem st2_len (D:MD) (R:Nat→Value) (i:Nat):(st2 D R i).length=2:=rfl
theorem OwM.empty (w:World) (B:Nat) (kd st:Int) (ld:ByteArray) (R:Nat→Value):OwM w B (.slice none 0 0) (emptyD kd st ld) R :=
 ⟨World.ownsRow_nil w B _ 2,fun _ hi=>absurd hi (Nat.not_lt_zero _),fun _ _ hi=>absurd hi (Nat.not_lt_zero _)⟩
namespace OwM
variable {w w':World} {B:Nat} {sv:Value} {D:MD} {R:Nat→Value}
theorem kept {z:Option Nat} (h:OwM w B sv D R) (hg:w.grownBy w' z) (hz:∀ k,z=some k→k < B):OwM w' B sv D R :=
 ⟨row_kept h.top hg (fun b hb e=>by have:=hz b e;have:=(World.ownsRow.lt h.top b hb).1;omega),
  fun i hi=>row_kept (h.row i hi) hg (fun b hb e=>by have:=hz b e;have:=(World.ownsRow.lt (h.row i hi) b hb).1;omega),h.apart⟩
theorem other (h:OwM w B sv D R) {p:Addr} (hp:sv.ownBlock≠some p.block) (hr:∀ i,i < D.n→(R i).ownBlock≠some p.block) (v:Value):OwM (w.setCell p v) B sv D R :=
 ⟨row_other h.top hp v,fun i hi=>row_other (h.row i hi) (hr i hi) v,h.apart⟩
theorem tne (h:OwM w B sv D R) {i:Nat} (hi:i < D.n) {b:Nat} (hb:(R i).ownBlock=some b):sv.ownBlock≠some b :=
 rows_ne (h.row i hi) h.top (by decide) hb
theorem fin_cell {g cap:Nat} (h:OwM w B (.slice (some ⟨g,0,none⟩) D.n cap) D R) {i:Nat} (hi:i < D.n):w.cell? ⟨g,i*2,none⟩=some (.string (D.fin i)) :=
 row_cell h.top (by have:=cat_get (st2_len D R) (i:=i) (j:=0) (by omega) hi;rw [Nat.add_zero] at this;rw [this];rfl)
theorem arcs_cell {g cap:Nat} (h:OwM w B (.slice (some ⟨g,0,none⟩) D.n cap) D R) {i:Nat} (hi:i < D.n):w.cell? ⟨g,i*2+1,none⟩=some (R i) :=
 row_cell h.top (by rw [cat_get (st2_len D R) (i:=i) (j:=1) (by omega) hi];rfl)
theorem sts (h:OwM w B sv D R):StS none w sv D:=by
 by_cases h0:D.n=0
 ·obtain ⟨a,cap,hv,_,hc⟩:=row_any h.top
  exact .inl ⟨h0,a,cap,by rw [hv,h0],hc⟩
 ·obtain ⟨g,cap,rfl,_,hg,h1,h2⟩:=row_shape h.top (by omega)
  refine .inr ⟨g,0,cap,R,rfl,⟨hg,by simp⟩,h1,h2,fun i hi=>⟨by rw [Nat.zero_add];exact h.fin_cell hi,by rw [Nat.zero_add];exact h.arcs_cell hi,?_⟩⟩
  have hr:=h.row i hi
  by_cases hn:D.na i=0
  ·obtain ⟨a,c,hv,_,hc⟩:=row_any hr
   exact .inl ⟨hn,a,c,by rw [hv,hn],hc⟩
  ·obtain ⟨b,c,hv,_,hb,h3,h4⟩:=row_shape hr (by omega)
   rw [hv] at hr
   refine .inr ⟨b,0,c,hv,⟨hb,by simp⟩,h3,h4,fun k hk=>?_⟩
   have hc:∀ j x,j < 4→(arc4 D i k)[j]?=some x→w.cell? ⟨b,k*4+j,none⟩=some x:=fun j x hj hx=>row_cell hr (by rw [cat_get (arc4_len D i) hj hk];exact hx)
   rw [Nat.zero_add]
   exact ⟨hc 0 _ (by omega) rfl,hc 1 _ (by omega) rfl,hc 2 _ (by omega) rfl,hc 3 _ (by omega) rfl⟩
theorem state {sv':Value} {o:Obj} {f:ByteArray} (h:OwM w B sv D R) (h1:w'.ownsRow B 87 2 sv' (D.n+1) (cat (st2 D R) D.n++[.string f,.slice none 0 0])) (hg:(w.alloc o).grownBy w' sv.ownBlock) :
  OwM w' B sv' (D.state f) (fun i=>if i=D.n then .slice none 0 0 else R i):=by
 refine ⟨?_,fun i hi=>?_,fun i j hi hj hij b hb=>?_⟩
 ·have e:cat (st2 (D.state f) (fun i=>if i=D.n then .slice none 0 0 else R i)) (D.n+1)=cat (st2 D R) D.n++[.string f,.slice none 0 0]:=by
   rw [cat_succ]
   congr 1
   ·exact cat_congr fun i hi=>by simp [st2,MD.state,show i≠D.n by omega]
   ·simp [st2,MD.state]
  show w'.ownsRow B 87 2 sv' (D.n+1) (cat _ (D.n+1))
  rw [e];exact h1
 ·by_cases e:i=D.n
  ·subst e
   show w'.ownsRow B _ 4 (if D.n=D.n then _ else _) (if D.n=D.n then 0 else D.na D.n) (cat (arc4 (D.state f) D.n) (if D.n=D.n then 0 else D.na D.n))
   rw [if_pos rfl,if_pos rfl];exact World.ownsRow_nil w' B 83 4
  ·have hi':i < D.n:=by have:i < D.n+1:=hi;omega
   show w'.ownsRow B _ 4 (if i=D.n then _ else R i) (if i=D.n then 0 else D.na i) (cat (arc4 D i) (if i=D.n then 0 else D.na i))
   rw [if_neg e,if_neg e]
   exact row_kept (World.ownsRow.alloc (h.row i hi') o) hg (fun b hb=>h.tne hi' hb)
 ·have hi':i < D.n+1:=hi
  have hj':j < D.n+1:=hj
  by_cases ei:i=D.n
  ·simp only [if_pos ei] at hb;cases hb
  ·simp only [if_neg ei] at hb
   by_cases ej:j=D.n
   ·simp only [if_pos ej];simp [Value.ownBlock]
   ·simp only [if_neg ej];exact h.apart i j (by omega) (by omega) hij b hb
theorem arc {g cap q:Nat} {v':Value} {o:Obj} {a b t:Int} {x:ByteArray} (h:OwM w B (.slice (some ⟨g,0,none⟩) D.n cap) D R) (hq:q < D.n)
  (h1:w'.ownsRow B 83 4 v' (D.na q+1) (cat (arc4 D q) (D.na q)++[.int .i64 a,.int .i64 b,.string x,.int .i64 t])) (hg:(w.alloc o).grownBy w' (R q).ownBlock)
  (hat:∀ c,v'.ownBlock=some c→(R q).ownBlock=some c∨w.heap.size≤c) :
  OwM (w'.setCell ⟨g,q*2+1,none⟩ v') B (.slice (some ⟨g,0,none⟩) D.n cap) (D.arc q a b x t) (fun i=>if i=q then v' else R i):=by
 have ht:w'.ownsRow B 87 2 (.slice (some ⟨g,0,none⟩) D.n cap) D.n (cat (st2 D R) D.n):=row_kept (World.ownsRow.alloc h.top o) hg (fun c hc e=>h.tne hq e.symm.symm hc)
 have hv:v'.ownBlock≠some g:=fun e=>by
  rcases hat g e with e1 | e1
  ·exact h.tne hq e1 rfl
  ·have:=(World.ownsRow.lt h.top g rfl).2;omega
 refine ⟨?_,fun i hi=>?_,fun i j hi hj hij c hc=>?_⟩
 ·have h2:=row_set ht (q*2+1) v'
  rw [cat_set (st2_len D R) (by omega) _ hq,cat_congr (d:=st2 (D.arc q a b x t) (fun i=>if i=q then v' else R i)) (fun i hi=>by
   by_cases e:i=q
   ·subst e;rw [if_pos rfl];simp [st2,MD.arc]
   ·rw [if_neg e];simp [st2,MD.arc,e])] at h2
  exact h2
 ·by_cases e:i=q
  ·subst e
   show World.ownsRow _ B _ 4 (if i=i then v' else R i) (if i=i then D.na i+1 else D.na i) (cat _ (if i=i then D.na i+1 else D.na i))
   rw [if_pos rfl,if_pos rfl,cat_succ,cat_congr (d:=arc4 D i) (fun k hk=>by simp [arc4,MD.arc,show k≠D.na i by omega])]
   have e2:arc4 (D.arc i a b x t) i (D.na i)=[.int .i64 a,.int .i64 b,.string x,.int .i64 t]:=by simp [arc4,MD.arc]
   rw [e2];exact row_other h1 (by exact hv) _
  ·show World.ownsRow _ B _ 4 (if i=q then v' else R i) (if i=q then D.na q+1 else D.na i) (cat _ (if i=q then D.na q+1 else D.na i))
   rw [if_neg e,if_neg e,cat_congr (d:=arc4 D i) (fun k hk=>by simp [arc4,MD.arc,e])]
   exact row_other (p:=⟨g,q*2+1,none⟩) (row_kept (World.ownsRow.alloc (h.row i hi) o) hg (fun c hc e2=>h.apart i q hi hq e c hc e2)) (fun e2=>h.tne hi e2 rfl) v'
 ·by_cases ei:i=q
  ·subst ei
   simp only [if_pos] at hc
   simp only [if_neg (fun e:j=i=>hij e.symm)]
   rcases hat c hc with e1 | e1
   ·exact h.apart i j hi hj hij c e1
   ·intro e2;have:=(World.ownsRow.lt (h.row j hj) c e2).2;omega
  ·simp only [if_neg ei] at hc
   by_cases ej:j=q
   ·subst ej
    simp only [if_pos]
    intro e2
    rcases hat c e2 with e1 | e1
    ·exact h.apart i j hi hj hij c hc e1
    ·have:=(World.ownsRow.lt (h.row i hi) c hc).2;omega
   ·simp only [if_neg ej];exact h.apart i j hi hj hij c hc
end OwM
end Go.Proofs.YtjekapjbigfkbaaGreatDoor

namespace Go.Proofs.YtjekapjbigfkbaaGreatDoor
open Go Go.RowKit Go.Deep
set_option maxRecDepth 100000
set_option linter.unusedSimpArgs false
structure Cu (w:World) (B g cap n1 n2 n3:Nat) (r:Nat→Nat) (s:Nat→Nat→Nat) (X:Nat→Nat→Nat→ByteArray):Prop where
 top:w.ownsRow B 66 1 (.slice (some ⟨g,0,none⟩) n1 cap) n1 (gvs n1 fun k=>.slice (some ⟨r k,0,none⟩) n2 n2)
 mid:∀ k,k < n1→w.rowIs (r k) 67 n2 (fun i=>.slice (some ⟨s k i,0,none⟩) n3 n3)
 row:∀ k i,k < n1→i < n2→w.rowIs (s k i) 9 n3 (fun j=>.string (X k i j))∧B≤s k i
 inj:∀ k i k' i',k < n1→i < n2→k' < n1→i' < n2→s k i=s k' i'→k=k'∧i=i'
 sm:∀ k i j,smS (X k i j)
def updX (X:Nat→Nat→Nat→ByteArray) (k i j:Nat) (v:ByteArray):Nat→Nat→Nat→ByteArray:=fun k' i' j'=>if k'=k∧i'=i∧j'=j then v else X k' i' j'
theorem row_blk {w:World} {B:Nat} {e:TypeId} {s n cap g:Nat} {xs:List Value} (h:w.ownsRow B e s (.slice (some ⟨g,0,none⟩) n cap) n xs):∃ cs fr,w.heap[g]?=some (.cells cs e fr):=by
 rcases h.2 with ⟨hv,_⟩ | ⟨g',cap',cur,hv,_,hgg,_⟩
 ·cases hv
 ·cases hv;exact ⟨cur,_,hgg⟩
namespace Cu
variable {w w':World} {B g cap n1 n2 n3:Nat} {r:Nat→Nat} {s:Nat→Nat→Nat} {X:Nat→Nat→Nat→ByteArray}
theorem c1 (h:Cu w B g cap n1 n2 n3 r s X) {k:Nat} (hk:k < n1):w.cell? ⟨g,k,none⟩=some (.slice (some ⟨r k,0,none⟩) n2 n2):=row_cell h.top (gvs_get _ _ _ hk)
theorem c2 (h:Cu w B g cap n1 n2 n3 r s X) {k i:Nat} (hk:k < n1) (hi:i < n2):w.cell? ⟨r k,i,none⟩=some (.slice (some ⟨s k i,0,none⟩) n3 n3):=(h.mid k hk).cell hi
theorem c3 (h:Cu w B g cap n1 n2 n3 r s X) {k i j:Nat} (hk:k < n1) (hi:i < n2) (hj:j < n3):w.cell? ⟨s k i,j,none⟩=some (.string (X k i j)):=(h.row k i hk hi).1.cell hj
theorem kept {C:Nat→Prop} (h:Cu w B g cap n1 n2 n3 r s X) (hf:Fr C w w') (hg:¬ C g) (hr:∀ k,k < n1→¬ C (r k)) (hs:∀ k i,k < n1→i < n2→¬ C (s k i)):Cu w' B g cap n1 n2 n3 r s X:=by
 refine ⟨?_,fun k hk=>hf.row (h.mid k hk) (hr k hk),fun k i hk hi=>⟨hf.row (h.row k i hk hi).1 (hs k i hk hi),(h.row k i hk hi).2⟩,h.inj,h.sm⟩
 have hlt:=(World.ownsRow.lt h.top g rfl).2
 obtain ⟨hl,ho⟩:=h.top
 refine ⟨hl,?_⟩
 rcases ho with ⟨hv,_⟩ | ⟨g',cap',cur,hv,h0,hgg,h1⟩
 ·cases hv
 ·cases hv;exact .inr ⟨g,cap,cur,rfl,h0,(hf.block g hlt hg).trans hgg,h1⟩
theorem new (h:Cu w B g cap n1 n2 n3 r s X) (hf:Fr (fun _=>False) w w'):Cu w' B g cap n1 n2 n3 r s X:=h.kept hf (fun e=>e) (fun _ _ e=>e) (fun _ _ _ _ e=>e)
theorem set (h:Cu w B g cap n1 n2 n3 r s X) {k i j:Nat} {v:ByteArray} (hk:k < n1) (hi:i < n2) (hv:smS v):Cu (w.setCell ⟨s k i,j,none⟩ (.string v)) B g cap n1 n2 n3 r s (updX X k i j v):=by
 have hf:Fr (fun q=>q=s k i) w (w.setCell ⟨s k i,j,none⟩ (.string v)):=(Fr.refl (fun q=>q=s k i) w).set (p:=⟨s k i,j,none⟩) (.inl rfl) _
 have hrow:=(h.row k i hk hi).1
 refine ⟨?_,fun k' hk'=>hf.row (h.mid k' hk') (fun e=>rowIs_ne hrow (h.mid k' hk') (by decide) e.symm),fun k' i' hk' hi'=>⟨?_,(h.row k' i' hk' hi').2⟩,h.inj,fun k' i' j'=>?_⟩
 ·obtain ⟨cs,fr,hgb⟩:=row_blk h.top
  have hne:g≠s k i:=fun e=>rowIs_blk hrow hgb (by decide) e.symm
  exact row_kept h.top (hf.mono (C':=fun q=>some (s k i)=some q) (fun q _ e=>by rw [e])).gb (fun b hb e=>by
   have e2:g=b:=by simpa [Value.ownBlock] using hb
   subst e2;exact hne (Option.some.inj e).symm)
 ·by_cases e:k'=k∧i'=i
  ·obtain ⟨rfl,rfl⟩:=e
   refine (hrow.set j _).congr (fun j' _=>?_)
   unfold updX
   by_cases e:j'=j
   ·rw [if_pos e,if_pos ⟨rfl,rfl,e⟩]
   ·rw [if_neg e,if_neg (fun h=>e h.2.2)]
  ·refine (hf.row (h.row k' i' hk' hi').1 (fun e2=>e (h.inj k' i' k i hk' hi' hk hi e2))).congr (fun j' _=>?_)
   unfold updX;rw [if_neg (fun h=>e ⟨h.1,h.2.1⟩)]
 ·unfold updX;split
  ·exact hv
  ·exact h.sm k' i' j'
end Cu
structure TbM (w:World) (tb g cap n1 n2 n3:Nat) (ev xv yv:Value) (mo:Int) (e:Nat):Prop where
 blk:w.heap[tb]?=some (.cells #[ev,.int .i64 mo,xv,yv,.slice (some ⟨g,0,none⟩) n1 cap,.int .i64 (e:Int)] 65 (0,0))
theorem TbM.cells {w:World} {tb g cap n1 n2 n3:Nat} {ev xv yv:Value} {mo:Int} {e:Nat} (h:TbM w tb g cap n1 n2 n3 ev xv yv mo e):w.cell? ⟨tb,0,none⟩=some ev∧w.cell? ⟨tb,1,none⟩=some (.int .i64 mo)∧w.cell? ⟨tb,2,none⟩=some xv∧w.cell? ⟨tb,3,none⟩=some yv∧w.cell? ⟨tb,4,none⟩=some (.slice (some ⟨g,0,none⟩) n1 cap)∧w.cell? ⟨tb,5,none⟩=some (.int .i64 (e:Int)):=by
 have hb:=h.blk
 exact ⟨by simp [World.cell?,hb],by simp [World.cell?,hb],by simp [World.cell?,hb],by simp [World.cell?,hb],by simp [World.cell?,hb],by simp [World.cell?,hb]⟩
theorem TbM.kept {w w':World} {C:Nat→Prop} {tb g cap n1 n2 n3:Nat} {ev xv yv:Value} {mo:Int} {e:Nat} (h:TbM w tb g cap n1 n2 n3 ev xv yv mo e) (hf:Fr C w w') (hc:¬ C tb):TbM w' tb g cap n1 n2 n3 ev xv yv mo e:=⟨(hf.block tb (lt_of_block h.blk) hc).trans h.blk⟩
def plV (k i j:Nat):Value:=.agg #[.int .i64 (k:Int),.int .i64 (i:Int),.int .i64 (j:Int)]
set_option maxHeartbeats 4000000 in
theorem get_any {B tb g cap n1 n2 n3 k i j e:Nat} {r:Nat→Nat} {s:Nat→Nat→Nat} {X:Nat→Nat→Nat→ByteArray} {ev xv yv:Value} {mo:Int} (w:World) (h:Cu w B g cap n1 n2 n3 r s X) (ht:TbM w tb g cap n1 n2 n3 ev xv yv mo e) (hk:k < n1) (hi:i < n2) (hj:j < n3) :
  Calls Tryz.prog 94 #[.pointer (some ⟨tb,0,none⟩),plV k i j] w (fun r w'=>r=.returned (.string (X k i j))∧Below w.heap.size w w'):=by
 have hkz:(k:Int) < (n1:Int):=by omega
 have hiz:(i:Int) < (n2:Int):=by omega
 have hjz:(j:Int) < (n3:Int):=by omega
 have hkz0:(0:Int)≤(k:Int):=by omega
 have hiz0:(0:Int)≤(i:Int):=by omega
 have hjz0:(0:Int)≤(j:Int):=by omega
 obtain ⟨w1,hw1⟩:∃ w1,w1=w.alloc (.cells #[.int .i64 (k:Int),.int .i64 (i:Int),.int .i64 (j:Int)] 70):=⟨_,rfl⟩
 obtain ⟨pb,hpb⟩:∃ pb,pb=w.heap.size:=⟨_,rfl⟩
 have hf1:Fr (fun _=>False) w w1:=by rw [hw1];exact Fr.alloc _ _
 have h1:=h.new hf1
 have t1:=ht.kept hf1 (fun e=>e)
 obtain ⟨_,_,_,_,c4,_⟩:=t1.cells
 have p0:w1.cell? ⟨pb,0,none⟩=some (.int .i64 (k:Int)):=by rw [hw1,hpb];exact cell_new w _ _ 0 _ rfl
 have p1:w1.cell? ⟨pb,1,none⟩=some (.int .i64 (i:Int)):=by rw [hw1,hpb];exact cell_new w _ _ 1 _ rfl
 have p2:w1.cell? ⟨pb,2,none⟩=some (.int .i64 (j:Int)):=by rw [hw1,hpb];exact cell_new w _ _ 2 _ rfl
 have d1:=h1.c1 hk
 have d2:=h1.c2 hk hi
 have d3:=h1.c3 hk hi hj
 have hbl:=hf1.below (Nat.le_refl w.heap.size) (fun _ e=>e.elim)
 obtain ⟨rk,hrk⟩:∃ rk,rk=r k:=⟨_,rfl⟩
 obtain ⟨ski,hski⟩:∃ ski,ski=s k i:=⟨_,rfl⟩
 obtain ⟨xx,hxx⟩:∃ xx,xx=X k i j:=⟨_,rfl⟩
 rw [← hrk] at d1 d2
 rw [← hski] at d2 d3
 rw [← hxx] at d3
 rw [← hxx]
 have HBL:=Lib.hid hbl;clear hbl
 clear hrk hski hxx h1 t1 h ht hf1
 unfold plV
 go_enter Tryz.func94,Tryz.ntmps94
 go_wp2_with fail
 rw [← hw1,← hpb]
 have HW1:=Lib.hid hw1;clear hw1
 have HPB:=Lib.hid hpb;clear hpb
 go_quiet (fail)
 go_wp2_with fail
 go_ret
 exact ⟨rfl,below_drewN HBL.out _⟩
def reaC (X:Nat→Nat→Nat→ByteArray) (e:Nat) (p q:Pl) (wt:ByteArray):(Nat→Nat→Nat→ByteArray) × Nat :=
 if (qaddF (X p.1 p.2.1 p.2.2) wt).2≠0 then (X,(qaddF (X p.1 p.2.1 p.2.2) wt).2)
 else if X q.1 q.2.1 q.2.2=⟨#[]⟩∨qcmpF (qaddF (X p.1 p.2.1 p.2.2) wt).1 (X q.1 q.2.1 q.2.2) < 0 then (updX X q.1 q.2.1 q.2.2 (qaddF (X p.1 p.2.1 p.2.2) wt).1,e)
 else (X,e)
theorem qaddF_sm (a b:ByteArray):smS (qaddF a b).1:=by
 unfold qaddF;split
 ·exact Nat.le_trans (limR_size _) (by omega)
 ·show (str []).size≤_;decide
def TbB (tb n1 n2:Nat) (s:Nat→Nat→Nat) (q:Nat):Prop:=q=tb∨∃ k i,k < n1∧i < n2∧q=s k i
def ReaE (B tb g cap n1 n2 n3:Nat) (r:Nat→Nat) (s:Nat→Nat→Nat) (ev xv yv:Value) (mo:Int) (z:(Nat→Nat→Nat→ByteArray) × Nat) (w:World) (rr:Ending) (w':World):Prop :=
 rr=.returned (.tuple #[])∧Cu w' B g cap n1 n2 n3 r s z.1∧TbM w' tb g cap n1 n2 n3 ev xv yv mo z.2∧Fr (TbB tb n1 n2 s) w w'
theorem Cu.tbne {w:World} {B g cap n1 n2 n3:Nat} {r:Nat→Nat} {s:Nat→Nat→Nat} {X:Nat→Nat→Nat→ByteArray} (h:Cu w B g cap n1 n2 n3 r s X) {tb:Nat} {cs:Array Value} {fr:Nat × Nat} (ht:w.heap[tb]?=some (.cells cs 65 fr)) :
  g≠tb∧(∀ k,k < n1→r k≠tb)∧∀ k i,k < n1→i < n2→s k i≠tb:=by
 refine ⟨fun e=>?_,fun k hk=>rowIs_blk (h.mid k hk) ht (by decide),fun k i hk hi=>rowIs_blk (h.row k i hk hi).1 ht (by decide)⟩
 obtain ⟨cs',fr',hgb⟩:=row_blk h.top
 subst e;rw [ht] at hgb;simp at hgb
set_option maxHeartbeats 8000000 in
theorem reach_any {B tb g cap n1 n2 n3 e:Nat} {p q:Pl} {r:Nat→Nat} {s:Nat→Nat→Nat} {X:Nat→Nat→Nat→ByteArray} {ev xv yv:Value} {mo:Int} {wt:ByteArray} (w:World) (h:Cu w B g cap n1 n2 n3 r s X) (ht:TbM w tb g cap n1 n2 n3 ev xv yv mo e)
  (hp:p.1 < n1∧p.2.1 < n2∧p.2.2 < n3) (hq:q.1 < n1∧q.2.1 < n2∧q.2.2 < n3) (hwt:smS wt) (hTab:Tab w) :
  Calls Tryz.prog 95 #[.pointer (some ⟨tb,0,none⟩),plV p.1 p.2.1 p.2.2,plV q.1 q.2.1 q.2.2,.string wt] w (ReaE B tb g cap n1 n2 n3 r s ev xv yv mo (reaC X e p q wt) w):=by
 obtain ⟨k,i,j⟩:=p
 obtain ⟨k',i',j'⟩:=q
 obtain ⟨hk,hi,hj⟩:k < n1∧i < n2∧j < n3:=hp
 obtain ⟨hk',hi',hj'⟩:k' < n1∧i' < n2∧j' < n3:=hq
 have hkz:(k':Int) < (n1:Int):=by omega
 have hiz:(i':Int) < (n2:Int):=by omega
 have hjz:(j':Int) < (n3:Int):=by omega
 have hkz0:(0:Int)≤(k':Int):=by omega
 have hiz0:(0:Int)≤(i':Int):=by omega
 have hjz0:(0:Int)≤(j':Int):=by omega
 obtain ⟨w1,hw1⟩:∃ w1,w1=w.alloc (.cells #[.int .i64 (k:Int),.int .i64 (i:Int),.int .i64 (j:Int)] 70):=⟨_,rfl⟩
 obtain ⟨w2,hw2⟩:∃ w2,w2=w1.alloc (.cells #[.int .i64 (k':Int),.int .i64 (i':Int),.int .i64 (j':Int)] 70):=⟨_,rfl⟩
 have hz1:w1.heap.size=w.heap.size+1:=by rw [hw1];simp
 obtain ⟨pb,hpb⟩:∃ pb,pb=w.heap.size:=⟨_,rfl⟩
 obtain ⟨qb,hqb⟩:∃ qb,qb=w.heap.size+1:=⟨_,rfl⟩
 have hf1:Fr (fun _=>False) w w1:=by rw [hw1];exact Fr.alloc _ _
 have hf2:Fr (fun _=>False) w1 w2:=by rw [hw2];exact Fr.alloc _ _
 have hq2:w2.heap[qb]?=some (.cells #[.int .i64 (k':Int),.int .i64 (i':Int),.int .i64 (j':Int)] 70 (0,0)):=by rw [hw2,hqb,← hz1];exact heap_alloc_new w1 _
 have hf:=hf1.trans hf2
 have h2:=h.new hf
 have t2:=ht.kept hf (fun e=>e)
 have hg1:=get_any w2 h2 t2 hk hi hj
 unfold plV at hg1
 have HG1:=Lib.hid hg1;clear hg1
 have HF:=Lib.hid hf;clear hf hf1 hf2
 have HC:=Lib.hid h2;clear h2 h
 have HT:=Lib.hid t2;clear t2 ht
 have HQ:=Lib.hid hq2;clear hq2
 have HTB:=Lib.hid hTab;clear hTab
 have HWT:=Lib.hid hwt;clear hwt
 unfold plV
 show Calls Tryz.prog _ #[_,.agg #[.int .i64 (k:Int),.int .i64 (i:Int),.int .i64 (j:Int)],.agg #[.int .i64 (k':Int),.int .i64 (i':Int),.int .i64 (j':Int)],_] w _
 go_enter Tryz.func95,Tryz.ntmps95
 go_wp2_with fail
 rw [← hw1,← hw2,← hqb,← hpb]
 clear hw1 hw2 hz1 hqb hpb
 refine HG1.out.mono ?_
 rintro rr w3 ⟨rfl,hb3⟩
 have hf3:Fr (fun _=>False) w2 w3:=Fr.of_below hb3
 have HC3:=Lib.hid (HC.out.new hf3);clear HC
 have HT3:=Lib.hid (HT.out.kept hf3 (fun e=>e));clear HT
 have HQ3:=Lib.hid ((hf3.block qb (lt_of_block HQ.out) (fun e=>e)).trans HQ.out);clear HQ
 have HF3:=Lib.hid (HF.out.trans hf3);clear HF hb3 HG1
 have htab3:Tab w3:=HTB.out.below (HF3.out.below (Nat.le_refl w.heap.size) (fun _ e=>e.elim)) (Nat.le_refl _)
 have HAD:=Lib.hid (qadd_any (X k i j) wt w3 (HC3.out.sm k i j) HWT.out htab3);clear htab3 hf3
 go_wp2_with fail
 refine HAD.out.mono ?_
 rintro rr w4 ⟨rfl,hb4⟩
 have hf4:Fr (fun _=>False) w3 w4:=Fr.of_below hb4
 have HC4:=Lib.hid (HC3.out.new hf4);clear HC3
 have HT4:=Lib.hid (HT3.out.kept hf4 (fun e=>e));clear HT3
 have HQ4:=Lib.hid ((hf4.block qb (lt_of_block HQ3.out) (fun e=>e)).trans HQ3.out);clear HQ3
 have HF4:=Lib.hid (HF3.out.trans hf4);clear HF3 hb4 HAD hf4
 obtain ⟨ad,had⟩:∃ ad,ad=qaddF (X k i j) wt:=⟨_,rfl⟩
 rw [← had]
 have hre:reaC X e (k,i,j) (k',i',j') wt=if ad.2≠0 then (X,ad.2) else if X k' i' j'=⟨#[]⟩∨qcmpF ad.1 (X k' i' j') < 0 then (updX X k' i' j' ad.1,e) else (X,e):=by rw [had];rfl
 have hadm:smS ad.1:=by rw [had];exact qaddF_sm _ _
 have HADM:=Lib.hid hadm;clear hadm had
 have HRE:=Lib.hid hre;clear hre
 by_cases he:ad.2=0
 rotate_left
 ·have hez:¬ ((ad.2:Int)=0):=by omega
  have hcl:=HT4.out.cells.2.2.2.2.2
  have fz:w4.frozen? ⟨tb,5,none⟩=false:=by simp [World.frozen?,HT4.out.blk]
  have HRE:=Lib.hid (HRE.out.trans (if_pos he))
  go_wp2_with fail
  go_end0
  have hne:=HC4.out.tbne HT4.out.blk
  have hfs:Fr (fun q=>q=tb) w4 (w4.setCell ⟨tb,5,none⟩ (.int .i64 (ad.2:Int))):=(Fr.refl (fun q=>q=tb) w4).set (p:=⟨tb,5,none⟩) (.inl rfl) _
  show ReaE _ _ _ _ _ _ _ _ _ _ _ _ _ _ _ _ _
  rw [HRE.out]
  exact ⟨rfl,HC4.out.kept hfs hne.1 hne.2.1 hne.2.2,⟨by simp [World.setCell,Array.getElem?_modify,HT4.out.blk]⟩,(HF4.out.mono (fun _ _ e=>e.elim)).trans (hfs.mono (fun _ _ e=>.inl e))⟩
 have HRE:=Lib.hid (HRE.out.trans (if_neg (by simp [he])))
 have hg2:=get_any w4 HC4.out HT4.out hk' hi' hj'
 unfold plV at hg2
 have HG2:=Lib.hid hg2;clear hg2
 have q0:w4.cell? ⟨qb,0,none⟩=some (.int .i64 (k':Int)):=by simp [World.cell?,HQ4.out]
 have q1:w4.cell? ⟨qb,1,none⟩=some (.int .i64 (i':Int)):=by simp [World.cell?,HQ4.out]
 have q2:w4.cell? ⟨qb,2,none⟩=some (.int .i64 (j':Int)):=by simp [World.cell?,HQ4.out]
 obtain ⟨a1,a2⟩:=ad
 have he2:a2=0:=he
 subst he2
 go_wp2_with fail
 clear q0 q1 q2
 refine HG2.out.mono ?_
 rintro rr w5 ⟨rfl,hb5⟩
 have hf5:Fr (fun _=>False) w4 w5:=Fr.of_below hb5
 have HC5:=Lib.hid (HC4.out.new hf5);clear HC4
 have HT5:=Lib.hid (HT4.out.kept hf5 (fun e=>e));clear HT4
 have HQ5:=Lib.hid ((hf5.block qb (lt_of_block HQ4.out) (fun e=>e)).trans HQ4.out);clear HQ4
 have HF5:=Lib.hid (HF4.out.trans hf5);clear HF4 hb5 HG2 hf5
 obtain ⟨old,hold⟩:∃ old,old=X k' i' j':=⟨_,rfl⟩
 rw [← hold] at HRE
 rw [← hold]
 have holdm:smS old:=by rw [hold];exact HC5.out.sm _ _ _
 have HOM:=Lib.hid holdm;clear holdm hold
 cases hO:(old.toList == [])
 ·have ho:old≠⟨#[]⟩:=fun e=>by rw [e] at hO;simp at hO
  have htab5:Tab w5:=HTB.out.below (HF5.out.below (Nat.le_refl w.heap.size) (fun _ e=>e.elim)) (Nat.le_refl _)
  have HCM:=Lib.hid (qcmp_any a1 old w5 HADM.out HOM.out htab5);clear htab5
  obtain ⟨cq,hcq⟩:∃ cq,cq=qcmpF a1 old:=⟨_,rfl⟩
  have hif:reaC X e (k,i,j) (k',i',j') wt=if cq < 0 then (updX X k' i' j' a1,e) else (X,e):=HRE.out.trans (by rw [hcq];simp [ho])
  rw [← hcq] at HCM
  have HIF:=Lib.hid hif;clear hif hcq ho
  go_wp2_with fail
  refine HCM.out.mono ?_
  rintro rr w6 ⟨rfl,hb6⟩
  have hf6:Fr (fun _=>False) w5 w6:=Fr.of_below hb6
  have HC6:=Lib.hid (HC5.out.new hf6);clear HC5
  have HT6:=Lib.hid (HT5.out.kept hf6 (fun e=>e));clear HT5
  have HQ6:=Lib.hid ((hf6.block qb (lt_of_block HQ5.out) (fun e=>e)).trans HQ5.out);clear HQ5
  have HF6:=Lib.hid (HF5.out.trans hf6);clear HF5 hb6 HCM hf6
  by_cases hlt:cq < 0
  ·have HIF:=Lib.hid (HIF.out.trans (if_pos hlt))
   have c1:=HC6.out.c1 hk'
   have c2:=HC6.out.c2 hk' hi'
   have c3:=HC6.out.c3 hk' hi' hj'
   have fz:=(HC6.out.row k' i' hk' hi').1.frozen j'
   have hS0:w6.drew.cell? ⟨tb,4,none⟩=some (.slice (some ⟨g,0,none⟩) n1 cap)∧w6.drew.cell? ⟨qb,0,none⟩=some (.int .i64 (k':Int))∧w6.drew.cell? ⟨qb,1,none⟩=some (.int .i64 (i':Int))∧w6.drew.cell? ⟨qb,2,none⟩=some (.int .i64 (j':Int))∧w6.drew.cell? ⟨g,k',none⟩=some (.slice (some ⟨r k',0,none⟩) n2 n2)∧w6.drew.cell? ⟨r k',i',none⟩=some (.slice (some ⟨s k' i',0,none⟩) n3 n3) :=
    ⟨HT6.out.cells.2.2.2.2.1,show w6.cell? _=_ by simp [World.cell?,HQ6.out],show w6.cell? _=_ by simp [World.cell?,HQ6.out],show w6.cell? _=_ by simp [World.cell?,HQ6.out],c1,c2⟩
   have g0:w6.drew.cell? ⟨s k' i',j',none⟩=some (.string (X k' i' j')):=c3
   have fz':w6.drew.frozen? ⟨s k' i',j',none⟩=false:=fz
   clear c1 c2 c3 fz
   go_wp2_with fail
   refine region_heldK (fun wk'=>wk'.cell? ⟨tb,4,none⟩=some (.slice (some ⟨g,0,none⟩) n1 cap)∧wk'.cell? ⟨qb,0,none⟩=some (.int .i64 (k':Int))∧wk'.cell? ⟨qb,1,none⟩=some (.int .i64 (i':Int))∧wk'.cell? ⟨qb,2,none⟩=some (.int .i64 (j':Int))∧wk'.cell? ⟨g,k',none⟩=some (.slice (some ⟨r k',0,none⟩) n2 n2)∧wk'.cell? ⟨r k',i',none⟩=some (.slice (some ⟨s k' i',0,none⟩) n3 n3)) 16 (by kernel_rfl) ?_
   refine AnyK.tk (i:=0) (v:=?va0) rfl (by kernel_rfl) hS0 (Or.inl ⟨by kernel_rfl,?hya0⟩) ?resta0
   case hya0=>rintro wk ⟨s1,s2,s3,s4,s5,s6⟩;go_simp;try with_reducible rfl
   refine AnyK.tk (i:=1) (v:=?va1) rfl (by kernel_rfl) hS0 (Or.inl ⟨by kernel_rfl,?hya1⟩) ?resta1
   case hya1=>rintro wk ⟨s1,s2,s3,s4,s5,s6⟩;go_simp;try with_reducible rfl
   refine AnyK.tk (i:=2) (v:=?va2) rfl (by kernel_rfl) hS0 (Or.inl ⟨by kernel_rfl,?hya2⟩) ?resta2
   case hya2=>rintro wk ⟨s1,s2,s3,s4,s5,s6⟩;go_simp;try with_reducible rfl
   refine AnyK.tk (i:=3) (v:=?va3) rfl (by kernel_rfl) hS0 (Or.inl ⟨by kernel_rfl,?hya3⟩) ?resta3
   case hya3=>rintro wk ⟨s1,s2,s3,s4,s5,s6⟩;go_simp;try with_reducible rfl
   refine AnyK.tk (i:=4) (v:=?va4) rfl (by kernel_rfl) hS0 (Or.inl ⟨by kernel_rfl,?hya4⟩) ?resta4
   case hya4=>rintro wk ⟨s1,s2,s3,s4,s5,s6⟩;go_simp;try with_reducible rfl
   refine AnyK.tk (i:=5) (v:=?va5) rfl (by kernel_rfl) hS0 (Or.inl ⟨by kernel_rfl,?hya5⟩) ?resta5
   case hya5=>rintro wk ⟨s1,s2,s3,s4,s5,s6⟩;go_simp;try with_reducible rfl
   refine AnyK.tk (i:=6) (v:=?va6) rfl (by kernel_rfl) hS0 (Or.inl ⟨by kernel_rfl,?hya6⟩) ?resta6
   case hya6=>rintro wk ⟨s1,s2,s3,s4,s5,s6⟩;go_simp;try with_reducible rfl
   refine AnyK.tk (i:=7) (v:=?va7) rfl (by kernel_rfl) hS0 (Or.inl ⟨by kernel_rfl,?hya7⟩) ?resta7
   case hya7=>rintro wk ⟨s1,s2,s3,s4,s5,s6⟩;go_simp;try with_reducible rfl
   refine AnyK.tk (i:=8) (v:=?va8) rfl (by kernel_rfl) hS0 (Or.inl ⟨by kernel_rfl,?hya8⟩) ?resta8
   case hya8=>rintro wk ⟨s1,s2,s3,s4,s5,s6⟩;go_simp;try with_reducible rfl
   refine AnyK.tk (i:=9) (v:=?va9) rfl (by kernel_rfl) hS0 (Or.inl ⟨by kernel_rfl,?hya9⟩) ?resta9
   case hya9=>rintro wk ⟨s1,s2,s3,s4,s5,s6⟩;go_simp;try with_reducible rfl
   refine AnyK.tk (i:=10) (v:=?va10) rfl (by kernel_rfl) hS0 (Or.inl ⟨by kernel_rfl,?hya10⟩) ?resta10
   case hya10=>rintro wk ⟨s1,s2,s3,s4,s5,s6⟩;go_simp;try with_reducible rfl
   refine AnyK.tk (i:=11) (v:=?va11) rfl (by kernel_rfl) hS0 (Or.inl ⟨by kernel_rfl,?hya11⟩) ?resta11
   case hya11=>rintro wk ⟨s1,s2,s3,s4,s5,s6⟩;go_simp;try with_reducible rfl
   refine AnyK.tk (i:=12) (v:=?va12) rfl (by kernel_rfl) hS0 (Or.inl ⟨by kernel_rfl,?hya12⟩) ?resta12
   case hya12=>rintro wk ⟨s1,s2,s3,s4,s5,s6⟩;go_simp;try with_reducible rfl
   refine AnyK.tk (i:=13) (v:=?va13) rfl (by kernel_rfl) hS0 (Or.inl ⟨by kernel_rfl,?hya13⟩) ?resta13
   case hya13=>rintro wk ⟨s1,s2,s3,s4,s5,s6⟩;go_simp;try with_reducible rfl
   refine AnyK.tk (i:=14) (v:=?va14) rfl (by kernel_rfl) hS0 (Or.inl ⟨by kernel_rfl,?hya14⟩) ?resta14
   case hya14=>rintro wk ⟨s1,s2,s3,s4,s5,s6⟩;go_simp;try with_reducible rfl
   refine AnyK.tk (i:=15) (v:=?va15) rfl (by kernel_rfl) hS0 (Or.inl ⟨by kernel_rfl,?hya15⟩) ?resta15
   case hya15=>rintro wk ⟨s1,s2,s3,s4,s5,s6⟩;go_simp;try with_reducible rfl
   try simp only [Act.put,List.setIfInBounds_toArray,List.set_cons_zero,List.set_cons_succ,List.getElem_toArray,List.getElem_cons_succ,List.getElem_cons_zero]
   refine AnyK.one (i:=16) rfl (by kernel_rfl) (by rfl) (fun K hK=>?_)
   go_simp
   refine hK.out _ _ (.inl rfl) (AnyK.done (by kernel_rfl) ?_ _)
   clear hK K
   go_wp2_with fail
   go_end0
   show ReaE _ _ _ _ _ _ _ _ _ _ _ _ _ _ _ _ _
   rw [HIF.out]
   have hfs:Fr (fun q=>q=s k' i') w6 (w6.setCell ⟨s k' i',j',none⟩ (.string a1)):=(Fr.refl (fun q=>q=s k' i') w6).set (p:=⟨s k' i',j',none⟩) (.inl rfl) _
   have hne:=(HC6.out.tbne HT6.out.blk).2.2 k' i' hk' hi'
   have hfd:Fr (fun _=>False) (w6.setCell ⟨s k' i',j',none⟩ (.string a1)) (w6.setCell ⟨s k' i',j',none⟩ (.string a1)).drew:=(Fr.refl _ _).drew
   refine ⟨rfl,(HC6.out.set hk' hi' HADM.out).new hfd,(HT6.out.kept hfs (fun e=>hne e.symm)).kept hfd (fun e=>e),?_⟩
   exact ((HF6.out.mono (fun _ _ e=>e.elim)).trans (hfs.mono (fun _ _ e=>.inr ⟨k',i',hk',hi',e⟩))).drew
  ·have HIF:=Lib.hid (HIF.out.trans (if_neg hlt))
   go_wp2_with fail
   go_end0
   show ReaE _ _ _ _ _ _ _ _ _ _ _ _ _ _ _ _ _
   rw [HIF.out]
   exact ⟨rfl,HC6.out,HT6.out,HF6.out.mono (fun _ _ e=>e.elim)⟩
 ·have ho:old=⟨#[]⟩:=empty_eq hO
  have HIF:=Lib.hid (HRE.out.trans (if_pos (.inl ho)));clear ho
  have c1:=HC5.out.c1 hk'
  have c2:=HC5.out.c2 hk' hi'
  have c3:=HC5.out.c3 hk' hi' hj'
  have fz:=(HC5.out.row k' i' hk' hi').1.frozen j'
  have hS0:w5.drew.cell? ⟨tb,4,none⟩=some (.slice (some ⟨g,0,none⟩) n1 cap)∧w5.drew.cell? ⟨qb,0,none⟩=some (.int .i64 (k':Int))∧w5.drew.cell? ⟨qb,1,none⟩=some (.int .i64 (i':Int))∧w5.drew.cell? ⟨qb,2,none⟩=some (.int .i64 (j':Int))∧w5.drew.cell? ⟨g,k',none⟩=some (.slice (some ⟨r k',0,none⟩) n2 n2)∧w5.drew.cell? ⟨r k',i',none⟩=some (.slice (some ⟨s k' i',0,none⟩) n3 n3) :=
   ⟨HT5.out.cells.2.2.2.2.1,show w5.cell? _=_ by simp [World.cell?,HQ5.out],show w5.cell? _=_ by simp [World.cell?,HQ5.out],show w5.cell? _=_ by simp [World.cell?,HQ5.out],c1,c2⟩
  have g0:w5.drew.cell? ⟨s k' i',j',none⟩=some (.string (X k' i' j')):=c3
  have fz':w5.drew.frozen? ⟨s k' i',j',none⟩=false:=fz
  clear c1 c2 c3 fz
  go_wp2_with fail
  refine region_heldK (fun wk'=>wk'.cell? ⟨tb,4,none⟩=some (.slice (some ⟨g,0,none⟩) n1 cap)∧wk'.cell? ⟨qb,0,none⟩=some (.int .i64 (k':Int))∧wk'.cell? ⟨qb,1,none⟩=some (.int .i64 (i':Int))∧wk'.cell? ⟨qb,2,none⟩=some (.int .i64 (j':Int))∧wk'.cell? ⟨g,k',none⟩=some (.slice (some ⟨r k',0,none⟩) n2 n2)∧wk'.cell? ⟨r k',i',none⟩=some (.slice (some ⟨s k' i',0,none⟩) n3 n3)) 16 (by kernel_rfl) ?_
  refine AnyK.tk (i:=0) (v:=?vb0) rfl (by kernel_rfl) hS0 (Or.inl ⟨by kernel_rfl,?hyb0⟩) ?restb0
  case hyb0=>rintro wk ⟨s1,s2,s3,s4,s5,s6⟩;go_simp;try with_reducible rfl
  refine AnyK.tk (i:=1) (v:=?vb1) rfl (by kernel_rfl) hS0 (Or.inl ⟨by kernel_rfl,?hyb1⟩) ?restb1
  case hyb1=>rintro wk ⟨s1,s2,s3,s4,s5,s6⟩;go_simp;try with_reducible rfl
  refine AnyK.tk (i:=2) (v:=?vb2) rfl (by kernel_rfl) hS0 (Or.inl ⟨by kernel_rfl,?hyb2⟩) ?restb2
  case hyb2=>rintro wk ⟨s1,s2,s3,s4,s5,s6⟩;go_simp;try with_reducible rfl
  refine AnyK.tk (i:=3) (v:=?vb3) rfl (by kernel_rfl) hS0 (Or.inl ⟨by kernel_rfl,?hyb3⟩) ?restb3
  case hyb3=>rintro wk ⟨s1,s2,s3,s4,s5,s6⟩;go_simp;try with_reducible rfl
  refine AnyK.tk (i:=4) (v:=?vb4) rfl (by kernel_rfl) hS0 (Or.inl ⟨by kernel_rfl,?hyb4⟩) ?restb4
  case hyb4=>rintro wk ⟨s1,s2,s3,s4,s5,s6⟩;go_simp;try with_reducible rfl
  refine AnyK.tk (i:=5) (v:=?vb5) rfl (by kernel_rfl) hS0 (Or.inl ⟨by kernel_rfl,?hyb5⟩) ?restb5
  case hyb5=>rintro wk ⟨s1,s2,s3,s4,s5,s6⟩;go_simp;try with_reducible rfl
  refine AnyK.tk (i:=6) (v:=?vb6) rfl (by kernel_rfl) hS0 (Or.inl ⟨by kernel_rfl,?hyb6⟩) ?restb6
  case hyb6=>rintro wk ⟨s1,s2,s3,s4,s5,s6⟩;go_simp;try with_reducible rfl
  refine AnyK.tk (i:=7) (v:=?vb7) rfl (by kernel_rfl) hS0 (Or.inl ⟨by kernel_rfl,?hyb7⟩) ?restb7
  case hyb7=>rintro wk ⟨s1,s2,s3,s4,s5,s6⟩;go_simp;try with_reducible rfl
  refine AnyK.tk (i:=8) (v:=?vb8) rfl (by kernel_rfl) hS0 (Or.inl ⟨by kernel_rfl,?hyb8⟩) ?restb8
  case hyb8=>rintro wk ⟨s1,s2,s3,s4,s5,s6⟩;go_simp;try with_reducible rfl
  refine AnyK.tk (i:=9) (v:=?vb9) rfl (by kernel_rfl) hS0 (Or.inl ⟨by kernel_rfl,?hyb9⟩) ?restb9
  case hyb9=>rintro wk ⟨s1,s2,s3,s4,s5,s6⟩;go_simp;try with_reducible rfl
  refine AnyK.tk (i:=10) (v:=?vb10) rfl (by kernel_rfl) hS0 (Or.inl ⟨by kernel_rfl,?hyb10⟩) ?restb10
  case hyb10=>rintro wk ⟨s1,s2,s3,s4,s5,s6⟩;go_simp;try with_reducible rfl
  refine AnyK.tk (i:=11) (v:=?vb11) rfl (by kernel_rfl) hS0 (Or.inl ⟨by kernel_rfl,?hyb11⟩) ?restb11
  case hyb11=>rintro wk ⟨s1,s2,s3,s4,s5,s6⟩;go_simp;try with_reducible rfl
  refine AnyK.tk (i:=12) (v:=?vb12) rfl (by kernel_rfl) hS0 (Or.inl ⟨by kernel_rfl,?hyb12⟩) ?restb12
  case hyb12=>rintro wk ⟨s1,s2,s3,s4,s5,s6⟩;go_simp;try with_reducible rfl
  refine AnyK.tk (i:=13) (v:=?vb13) rfl (by kernel_rfl) hS0 (Or.inl ⟨by kernel_rfl,?hyb13⟩) ?restb13
  case hyb13=>rintro wk ⟨s1,s2,s3,s4,s5,s6⟩;go_simp;try with_reducible rfl
  refine AnyK.tk (i:=14) (v:=?vb14) rfl (by kernel_rfl) hS0 (Or.inl ⟨by kernel_rfl,?hyb14⟩) ?restb14
  case hyb14=>rintro wk ⟨s1,s2,s3,s4,s5,s6⟩;go_simp;try with_reducible rfl
  refine AnyK.tk (i:=15) (v:=?vb15) rfl (by kernel_rfl) hS0 (Or.inl ⟨by kernel_rfl,?hyb15⟩) ?restb15
  case hyb15=>rintro wk ⟨s1,s2,s3,s4,s5,s6⟩;go_simp;try with_reducible rfl
  try simp only [Act.put,List.setIfInBounds_toArray,List.set_cons_zero,List.set_cons_succ,List.getElem_toArray,List.getElem_cons_succ,List.getElem_cons_zero]
  refine AnyK.one (i:=16) rfl (by kernel_rfl) (by rfl) (fun K hK=>?_)
  go_simp
  refine hK.out _ _ (.inl rfl) (AnyK.done (by kernel_rfl) ?_ _)
  clear hK K
  go_wp2_with fail
  go_end0
  show ReaE _ _ _ _ _ _ _ _ _ _ _ _ _ _ _ _ _
  rw [HIF.out]
  have hfs:Fr (fun q=>q=s k' i') w5 (w5.setCell ⟨s k' i',j',none⟩ (.string a1)):=(Fr.refl (fun q=>q=s k' i') w5).set (p:=⟨s k' i',j',none⟩) (.inl rfl) _
  have hne:=(HC5.out.tbne HT5.out.blk).2.2 k' i' hk' hi'
  have hfd:Fr (fun _=>False) (w5.setCell ⟨s k' i',j',none⟩ (.string a1)) (w5.setCell ⟨s k' i',j',none⟩ (.string a1)).drew:=(Fr.refl _ _).drew
  refine ⟨rfl,(HC5.out.set hk' hi' HADM.out).new hfd,(HT5.out.kept hfs (fun e=>hne e.symm)).kept hfd (fun e=>e),?_⟩
  exact ((HF5.out.mono (fun _ _ e=>e.elim)).trans (hfs.mono (fun _ _ e=>.inr ⟨k',i',hk',hi',e⟩))).drew
end Go.Proofs.YtjekapjbigfkbaaGreatDoor
