/- Parts. -/
import Derived.Test.YtpldocnhbdlgfaaGreatDoorPc17
namespace Go.Proofs.YtpldocnhbdlgfaaGreatDoor
set_option maxRecDepth 100000
set_option linter.all false
set_option maxHeartbeats 16000000
open Go Tryz
section
def cellOf{w:World}{b:Nat}{c:Array Value}{e:TypeId}{f:Nat × Nat}(h:w.heap[b]?=some (.cells c e f))(i:Nat){v:Value}(d:c[i]?=some v):w.cell? (Ad b i)=some v:=by
 simp[World.cell?,h,d]
end
section
open Go.RowKit Go.Deep
def gvs(n:Nat)(X:Nat->Value):List Value:=(List.range n).map X
def OwV(w:World)(B:Nat)(e:TypeId)(v:Value)(n:Nat)(X:Nat->Value):Prop:=w.ownsRow B e 1 v n (gvs n X)
structure OMV(w:World)(Z:Nat->Prop)(B:Nat)(eR eT:TypeId)(g n:Nat)(R:Nat->Value)(L:Nat->Nat)(X:Nat->Nat->Value):Prop where
 top:w.rowIs g eT n R
 base:B<=g
 zg:¬Z g
 zlt:∀b,Z b->b<w.heap.size
 row:∀i,i<n->OwV w B eR (R i) (L i) (X i)
 far:∀i,i<n->∀b,(R i).ownBlock=some b->b≠g/\¬Z b
 apart:∀i j,i<n->j<n->i≠j->∀b,(R i).ownBlock=some b->(R j).ownBlock≠some b
namespace OMV
variable{w w':World}{Z:Nat->Prop}{B:Nat}{eR eT:TypeId}{g n:Nat}{R:Nat->Value}{L:Nat->Nat}{X:Nat->Nat->Value}
end OMV
end
section
open Go.RowKit Go.Deep
variable{w:World}{B b cap g i n s:Nat}{e:TypeId}{xs:List Value}{v:Value}{z:Option Nat}
def cat(c:Nat->List Value)(n:Nat):List Value:=(List.range n).flatMap c
theorem Di(c:Nat->List Value)(n:Nat):cat c (n+1)=cat c n++c n:=by unfold cat;rw[List.range_succ,List.flatMap_append];simp
theorem CS{c:Nat->List Value}{s:Nat}(hc:∀i,(c i).length=s):∀n,(cat c n).length=n*s
 |0=>by simp[cat]
 |n+1=>by rw[Di,List.length_append,CS hc n,hc n,Nat.add_mul,Nat.one_mul]
theorem BC{c d:Nat->List Value}:∀{n:Nat},(∀i,i<n->c i=d i)->cat c n=cat d n
 |0,_=>rfl
 |n+1,h=>by rw[Di,Di,BC (λi hi=>h i (by omega)),h n (by omega)]
theorem Cw{c:Nat->List Value}{s:Nat}(hc:∀i,(c i).length=s){i j:Nat}(hj:j<s):∀{n:Nat},i<n->(cat c n)[i*s+j]?=(c i)[j]?
 |0,h=>by omega
 |n+1,h=>by
  rw[Di];by_cases e:i=n
  ·subst e;rw[List.getElem?_append_right (by rw[CS hc];omega),CS hc,Nat.add_sub_cancel_left]
  have h1:i<n:=by omega
  have h2:i*s+j<n*s:=Nat.lt_of_lt_of_le (by rw[Nat.add_lt_add_iff_left];exact hj:i*s+j<i*s+s) (by rw[<-Nat.succ_mul];exact Nat.mul_le_mul_right s h1);rw[List.getElem?_append_left (by rw[CS hc];exact h2)];exact Cw hc hj h1
theorem DT{c:Nat->List Value}{s:Nat}(hc:∀i,(c i).length=s){i j:Nat}(hj:j<s)(x:Value):∀{n:Nat},i<n->(cat c n).set (i*s+j) x=cat (λk=>if k=i then (c i).set j x else c k) n
 |0,h=>by omega
 |n+1,h=>by
  rw[Di,Di];by_cases e:i=n
  ·subst e;rw[List.set_append_right _ _ (by rw[CS hc];omega),CS hc,Nat.add_sub_cancel_left,ifp rfl]
   congr 1
   exact BC λk hk=>by rw[ifn (by omega)]
  have h1:i<n:=by omega
  have h2:i*s+j<n*s:=Nat.lt_of_lt_of_le (by rw[Nat.add_lt_add_iff_left];exact hj:i*s+j<i*s+s) (by rw[<-Nat.succ_mul];exact Nat.mul_le_mul_right s h1);rw[List.set_append_left _ _ (by rw[CS hc];exact h2),DT hc hj x h1,ifn (λe2=>e e2.symm)]
theorem EA(h:w.ownsRow B e s (.slice (some (Ad g 0)) n cap) n xs)(o:Nat)(x:Value):
  (w.setCell (Ad g o) x).ownsRow B e s (.slice (some (Ad g 0)) n cap) n (xs.set o x):=by
 refine⟨by rw[List.length_set];exact h.1,?_⟩
 rcases h.2 with⟨d,_⟩|⟨u,i,cur,d,j,c,k,l,m,p⟩
 ·cases d
 cases d;refine .inr ⟨g,cap,cur.setIfInBounds o x,rfl,j,by simp[World.setCell,Array.getElem?_modify,c],k,l,by simpa using m,?_⟩;rw[Array.toList_setIfInBounds,List.take_set,p]
theorem Cr{o:Nat}{x:Value}(h:w.ownsRow B e s (.slice (some (Ad g 0)) n cap) n xs)(c:xs[o]?=some x):w.cell? (Ad g o)=some x:=by
 have:=World.ownsRow.cells h (g:=g) rfl o _ c;rw[Addr.add_lit,Nat.zero_add]at this;exact this
theorem DD(h:w.ownsRow B e s (.slice (some (Ad g 0)) n cap) n xs)(o:Nat):w.frozen? (Ad g o)=false:=by
 rcases h.2 with⟨d,_⟩|⟨j,i,cur,d,k,c,_⟩
 ·cases d
 cases d;simp[World.frozen?,c]
theorem Ed(h:w.ownsRow B e s v n xs)(hn:0<n):∃g cap,v=.slice (some (Ad g 0)) n cap/\B<=g/\g<w.heap.size/\n<=cap/\cap<=maxLen:=by
 rcases h.2 with⟨_,d⟩|⟨g,cap,cur,rfl,d,c,i,j,_⟩
 ·omega
 exact⟨g,cap,rfl,d,(Array.getElem?_eq_some_iff.1 c).1,i,j⟩
theorem Au(h:w.ownsRow B e s v n xs):∃a cap,v=.slice a n cap/\n<=cap/\cap<=maxLen:=by
 rcases h.2 with⟨rfl,c⟩|⟨g,cap,cur,rfl,c,j,d,i,_⟩
 ·exact⟨none,0,by rw[c],by omega,Nat.zero_le _⟩
 exact⟨_,cap,rfl,d,i⟩
theorem Hv{l:Nat}{e':TypeId}{A z:Nat}{v':Value}{i:List Value}(h:w.ownsRow B e s v n xs)(p:w.ownsRow l e' A v' z i)(u:e≠e')(hb:v.ownBlock=some b):v'.ownBlock≠some b:=by
 rcases h.2 with⟨rfl,_⟩|⟨g,m,cur,rfl,_,d,_⟩
 ·cases hb
 rcases p.2 with⟨rfl,_⟩|⟨C,j,k,rfl,_,c,_⟩
 ·simp[Value.ownBlock]
 simp[Value.ownBlock]at hb ⊢;intro o;subst hb;subst o;rw[d]at c;simp at c;exact u c.2
theorem AG{w':World}(h:w.ownsRow B e s v n xs)(c:w.grownBy w' z)(g:∀b,v.ownBlock=some b->z≠some b):w'.ownsRow B e s v n xs :=
 World.ownsRow.kept h c (by
  cases d:v.ownBlock with
  |none=>exact .inl rfl
  |some b=>exact .inr (λe=>g b d e.symm))
theorem BG(h:w.ownsRow B e s v n xs){p:Addr}(c:v.ownBlock≠some p.block)(x:Value):(w.setCell p x).ownsRow B e s v n xs :=
 AG h (z:=some p.block) ⟨rfl,rfl,rfl,by simp,λq _ d=>blk_setCell_other _ _ _ _ (λe=>d (by rw[e]))⟩ (λb hb e=>c (by rw[hb,e]))
def arc4(D:MD)(i k:Nat):List Value:=[.int .i64 (D.ain i k),.int .i64 (D.aout i k),.string (D.aw i k),.int .i64 (D.ato i k)]
def st2(D:MD)(R:Nat->Value)(i:Nat):List Value:=[.string (D.fin i),R i]
structure OwM(w:World)(B:Nat)(sv:Value)(D:MD)(R:Nat->Value):Prop where
 top:w.ownsRow B 63 2 sv D.n (cat (st2 D R) D.n)
 row:∀i,i<D.n->w.ownsRow B 59 4 (R i) (D.na i) (cat (arc4 D i) (D.na i))
 apart:∀i j,i<D.n->j<D.n->i≠j->∀b,(R i).ownBlock=some b->(R j).ownBlock≠some b
def BO(kd:Int)(start:Int)(lead:ByteArray):MD:=⟨kd,start,lead,0,λ_=>⟨#[]⟩,λ_=>0,λ_ _=>0,λ_ _=>0,λ_ _=>⟨#[]⟩,λ_ _=>0⟩
def MD.state(D:MD)(f:ByteArray):MD:={ D with n:=D.n+1,fin:=λi=>if i=D.n then f else D.fin i,na:=λi=>if i=D.n then 0 else D.na i }
def MD.setFin(D:MD)(q:Nat)(f:ByteArray):MD:={ D with fin:=λi=>if i=q then f else D.fin i }
def MD.arc(D:MD)(q:Nat)(a b:Int)(x:ByteArray)(t:Int):MD :=
 { D with
  na:=λi=>if i=q then D.na q+1 else D.na i
  ain:=λi k=>if i=q/\k=D.na q then a else D.ain i k
  aout:=λi k=>if i=q/\k=D.na q then b else D.aout i k
  aw:=λi k=>if i=q/\k=D.na q then x else D.aw i k
  ato:=λi k=>if i=q/\k=D.na q then t else D.ato i k }
theorem DO(D:MD)(i k:Nat):(arc4 D i k).length=4:=rfl
theorem Dq(D:MD)(R:Nat->Value)(i:Nat):(st2 D R i).length=2:=rfl
theorem OwM.empty(w:World)(B:Nat)(kd st:Int)(c:ByteArray)(R:Nat->Value):OwM w B (.slice none 0 0) (BO kd st c) R :=
 ⟨World.ownsRow_nil w B _ 2,λ_ hi=>absurd hi (Nat.not_lt_zero _),λ_ _ hi=>absurd hi (Nat.not_lt_zero _)⟩
namespace OwM
variable{w w':World}{B:Nat}{sv:Value}{D:MD}{R:Nat->Value}
theorem kept(h:OwM w B sv D R)(c:w.grownBy w' z)(d:∀k,z=some k->k<B):OwM w' B sv D R :=
 ⟨AG h.top c (λb hb e=>by have:=d b e;have:=(World.ownsRow.lt h.top b hb).1;omega),
  λi hi=>AG (h.row i hi) c (λb hb e=>by have:=d b e;have:=(World.ownsRow.lt (h.row i hi) b hb).1;omega),h.apart⟩
theorem other(h:OwM w B sv D R){p:Addr}(c:sv.ownBlock≠some p.block)(d:∀i,i<D.n->(R i).ownBlock≠some p.block)(v:Value):OwM (w.setCell p v) B sv D R :=
 ⟨BG h.top c v,λi hi=>BG (h.row i hi) (d i hi) v,h.apart⟩
theorem tne(h:OwM w B sv D R)(hi:i<D.n)(hb:(R i).ownBlock=some b):sv.ownBlock≠some b :=
 Hv (h.row i hi) h.top (by decide) hb
theorem fin_cell(h:OwM w B (.slice (some (Ad g 0)) D.n cap) D R)(hi:i<D.n):w.cell? (Ad g (i*2))=some (.string (D.fin i)) :=
 Cr h.top (by have:=Cw (Dq D R) (i:=i) (j:=0) (by omega) hi;rw[Nat.add_zero]at this;rw[this];rfl)
theorem arcs_cell(h:OwM w B (.slice (some (Ad g 0)) D.n cap) D R)(hi:i<D.n):w.cell? (Ad g (i*2+1))=some (R i) :=
 Cr h.top (by rw[Cw (Dq D R) (i:=i) (j:=1) (by omega) hi];rfl)
theorem sts(h:OwM w B sv D R):StS none w sv D:=by
 by_cases p:D.n=0
 ·obtain⟨a,l,m,_,d⟩:=Au h.top;exact .inl ⟨p,a,l,by rw[m,p],d⟩
 obtain⟨g,l,rfl,_,E,u,z⟩:=Ed h.top (by omega);refine .inr ⟨g,0,l,R,rfl,⟨E,by simp⟩,u,z,λi hi=>⟨by rw[Nat.zero_add];exact h.fin_cell hi,by rw[Nat.zero_add];exact h.arcs_cell hi,?_⟩⟩;have o:=h.row i hi;by_cases s:D.na i=0
 ·obtain⟨a,c,m,_,d⟩:=Au o;exact .inl ⟨s,a,c,by rw[m,s],d⟩
 obtain⟨b,c,m,_,hb,A,C⟩:=Ed o (by omega);rw[m]at o;refine .inr ⟨b,0,c,m,⟨hb,by simp⟩,A,C,λk G=>?_⟩;have d:∀j x,j<4->(arc4 D i k)[j]?=some x->w.cell? (Ad b (k*4+j))=some x:=λj x F H=>Cr o (by rw[Cw (DO D i) F G];exact H);rw[Nat.zero_add];exact⟨d 0 _ (by omega) rfl,d 1 _ (by omega) rfl,d 2 _ (by omega) rfl,d 3 _ (by omega) rfl⟩
theorem state{d:Value}{o:Obj}{f:ByteArray}(h:OwM w B sv D R)(m:w'.ownsRow B 63 2 d (D.n+1) (cat (st2 D R) D.n++[.string f,.slice none 0 0]))(p:(w.alloc o).grownBy w' sv.ownBlock):
  OwM w' B d (D.state f) (λi=>if i=D.n then .slice none 0 0 else R i):=by
 refine⟨?_,λi hi=>?_,λi j hi s g b hb=>?_⟩
 ·have e:cat (st2 (D.state f) (λi=>if i=D.n then .slice none 0 0 else R i)) (D.n+1)=cat (st2 D R) D.n++[.string f,.slice none 0 0]:=by
   rw[Di]
   congr 1
   ·exact BC λi hi=>by simp[st2,MD.state,show i≠D.n by omega]
   simp[st2,MD.state]
  show w'.ownsRow B 63 2 d (D.n+1) (cat _ (D.n+1));rw[e];exact m
 ·by_cases e:i=D.n
  ·subst e;show w'.ownsRow B _ 4 (if D.n=D.n then _ else _) (if D.n=D.n then 0 else D.na D.n) (cat (arc4 (D.state f) D.n) (if D.n=D.n then 0 else D.na D.n))
   rw[ifp rfl,ifp rfl];exact World.ownsRow_nil w' B 59 4
  have c:i<D.n:=by have:i<D.n+1:=hi;omega
  show w'.ownsRow B _ 4 (if i=D.n then _ else R i) (if i=D.n then 0 else D.na i) (cat (arc4 D i) (if i=D.n then 0 else D.na i))
  rw[ifn e,ifn e];exact AG (World.ownsRow.alloc (h.row i c) o) p (λb hb=>h.tne c hb)
 have c:i<D.n+1:=hi;have u:j<D.n+1:=s;by_cases k:i=D.n
 ·simp only[ifp k]at hb;cases hb
 simp only[ifn k]at hb;by_cases l:j=D.n
 ·simp only[ifp l];simp[Value.ownBlock]
 simp only[ifn l];exact h.apart i j (by omega) (by omega) g b hb
theorem setFin{g cap q:Nat}(h:OwM w B (.slice (some (Ad g 0)) D.n cap) D R)(j:q<D.n)(f:ByteArray):OwM (w.setCell (Ad g (q*2)) (.string f)) B (.slice (some (Ad g 0)) D.n cap) (D.setFin q f) R:=by
 refine⟨?_,λi hi=>BG (p:=(Ad g (q*2))) (h.row i hi) (λe=>h.tne hi e rfl) (.string f),h.apart⟩;have c:=EA h.top (q*2+0) (.string f);rw[DT (Dq D R) (by omega) _ j,BC (d:=st2 (D.setFin q f) R) (λi hi=>by
  by_cases e:i=q
  ·subst e;rw[ifp rfl];simp[st2,MD.setFin]
  rw[ifn e];simp[st2,MD.setFin,e])]at c
 exact c
theorem arc{g cap q:Nat}{v':Value}{o:Obj}{a b t:Int}{x:ByteArray}(h:OwM w B (.slice (some (Ad g 0)) D.n cap) D R)(C:q<D.n)
  (I:w'.ownsRow B 59 4 v' (D.na q+1) (cat (arc4 D q) (D.na q)++[.int .i64 a,.int .i64 b,.string x,.int .i64 t])) (H:(w.alloc o).grownBy w' (R q).ownBlock)
  (z:∀c,v'.ownBlock=some c->(R q).ownBlock=some c\/w.heap.size<=c) :
  OwM (w'.setCell (Ad g (q*2+1)) v') B (.slice (some (Ad g 0)) D.n cap) (D.arc q a b x t) (λi=>if i=q then v' else R i):=by
 have K:w'.ownsRow B 63 2 (.slice (some (Ad g 0)) D.n cap) D.n (cat (st2 D R) D.n):=AG (World.ownsRow.alloc h.top o) H (λc l e=>h.tne C e.symm.symm l);have L:v'.ownBlock≠some g:=λe=>by
  rcases z g e with u|u
  ·exact h.tne C u rfl
  have:=(World.ownsRow.lt h.top g rfl).2;omega
 refine⟨?_,λi hi=>?_,λi j hi A s c l=>?_⟩
 ·have G:=EA K (q*2+1) v';rw[DT (Dq D R) (by omega) _ C,BC (d:=st2 (D.arc q a b x t) (λi=>if i=q then v' else R i)) (λi hi=>by
   by_cases e:i=q
   ·subst e;rw[ifp rfl];simp[st2,MD.arc]
   rw[ifn e];simp[st2,MD.arc,e])]at G
  exact G
 ·by_cases e:i=q
  ·subst e;show World.ownsRow _ B _ 4 (if i=i then v' else R i) (if i=i then D.na i+1 else D.na i) (cat _ (if i=i then D.na i+1 else D.na i))
   rw[ifp rfl,ifp rfl,Di,BC (d:=arc4 D i) (λk J=>by simp[arc4,MD.arc,show k≠D.na i by omega])];have m:arc4 (D.arc i a b x t) i (D.na i)=[.int .i64 a,.int .i64 b,.string x,.int .i64 t]:=by simp[arc4,MD.arc]
   rw[m];exact BG I (by exact L) _
  show World.ownsRow _ B _ 4 (if i=q then v' else R i) (if i=q then D.na q+1 else D.na i) (cat _ (if i=q then D.na q+1 else D.na i))
  rw[ifn e,ifn e,BC (d:=arc4 D i) (λk J=>by simp[arc4,MD.arc,e])];exact BG (p:=(Ad g (q*2+1))) (AG (World.ownsRow.alloc (h.row i hi) o) H (λc l m=>h.apart i q hi C e c l m)) (λm=>h.tne hi m rfl) v'
 by_cases E:i=q
 ·subst E;simp only[if_pos]at l;simp only[ifn (λe:j=i=>s e.symm)]
  rcases z c l with u|u
  ·exact h.apart i j hi A s c u
  intro m;have:=(World.ownsRow.lt (h.row j A) c m).2;omega
 simp only[ifn E]at l;by_cases F:j=q
 ·subst F;simp only[if_pos];intro m
  rcases z c m with u|u
  ·exact h.apart i j hi A s c l u
  have:=(World.ownsRow.lt (h.row i hi) c l).2;omega
 simp only[ifn F];exact h.apart i j hi A s c l
end OwM
end
end Go.Proofs.YtpldocnhbdlgfaaGreatDoor
