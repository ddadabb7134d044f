/- Parts. -/
import Derived.Test.YteappjogmnogcaaGreatDoorZ12
import Derived.Laws.CopyOwn
namespace Go.Proofs.YteappjogmnogcaaGreatDoor
set_option maxRecDepth 100000
set_option linter.all false
set_option maxHeartbeats 16000000
open Go Tryz
section
open Go.RowKit Go.Deep
def gvs(n:Nat)(X:Nat->Value):List Value:=(List.range n).map X
def OwV(w:World)(B:Nat)(e:TypeId)(v:Value)(n:Nat)(X:Nat->Value):Prop:=w.ownsRow B e 1 v n (gvs n X)
structure OMV(w:World)(Z:Nat->Prop)(B:Nat)(eR eT:TypeId)(g n:Nat)(R:Nat->Value)(L:Nat->Nat)(X:Nat->Nat->Value):Prop where
 top:w.rowIs g eT n R
 base:B<=g
 zg:¬Z g
 zlt:∀b,Z b->b<w.heap.size
 row:∀i,i<n->OwV w B eR (R i) (L i) (X i)
 far:∀i,i<n->∀b,(R i).ownBlock=some b->b≠g/\¬Z b
 apart:∀i j,i<n->j<n->i≠j->∀b,(R i).ownBlock=some b->(R j).ownBlock≠some b
namespace OMV
variable{w w':World}{Z:Nat->Prop}{B:Nat}{eR eT:TypeId}{g n:Nat}{R:Nat->Value}{L:Nat->Nat}{X:Nat->Nat->Value}
end OMV
end
section
open Go.RowKit Go.Deep
variable{w:World}{B b cap g i n s:Nat}{e:TypeId}{xs:List Value}{v:Value}{z:Option Nat}
def cat(c:Nat->List Value)(n:Nat):List Value:=(List.range n).flatMap c
theorem Dn(c:Nat->List Value)(n:Nat):cat c (n+1)=cat c n++c n:=by unfold cat;rw[List.range_succ,List.flatMap_append];simp
theorem Cf{c:Nat->List Value}{s:Nat}(hc:∀i,(c i).length=s):∀n,(cat c n).length=n*s
 |0=>by simp[cat]
 |n+1=>by rw[Dn,List.length_append,Cf hc n,hc n,Nat.add_mul,Nat.one_mul]
theorem BH{c d:Nat->List Value}:∀{n:Nat},(∀i,i<n->c i=d i)->cat c n=cat d n
 |0,_=>rfl
 |n+1,h=>by rw[Dn,Dn,BH (λi hi=>h i (by omega)),h n (by omega)]
theorem Cv{c:Nat->List Value}{s:Nat}(hc:∀i,(c i).length=s){i j:Nat}(hj:j<s):∀{n:Nat},i<n->(cat c n)[i*s+j]?=(c i)[j]?
 |0,h=>by omega
 |n+1,h=>by
  rw[Dn];by_cases e:i=n
  ·subst e;rw[List.getElem?_append_right (by rw[Cf hc];omega),Cf hc,Nat.add_sub_cancel_left]
  have h1:i<n:=by omega
  have h2:i*s+j<n*s:=Nat.lt_of_lt_of_le (by rw[Nat.add_lt_add_iff_left];exact hj:i*s+j<i*s+s) (by rw[<-Nat.succ_mul];exact Nat.mul_le_mul_right s h1);rw[List.getElem?_append_left (by rw[Cf hc];exact h2)];exact Cv hc hj h1
theorem DX{c:Nat->List Value}{s:Nat}(hc:∀i,(c i).length=s){i j:Nat}(hj:j<s)(x:Value):∀{n:Nat},i<n->(cat c n).set (i*s+j) x=cat (λk=>if k=i then (c i).set j x else c k) n
 |0,h=>by omega
 |n+1,h=>by
  rw[Dn,Dn];by_cases e:i=n
  ·subst e;rw[List.set_append_right _ _ (by rw[Cf hc];omega),Cf hc,Nat.add_sub_cancel_left,ifp rfl]
   congr 1
   exact BH λk hk=>by rw[ifn (by omega)]
  have h1:i<n:=by omega
  have h2:i*s+j<n*s:=Nat.lt_of_lt_of_le (by rw[Nat.add_lt_add_iff_left];exact hj:i*s+j<i*s+s) (by rw[<-Nat.succ_mul];exact Nat.mul_le_mul_right s h1);rw[List.set_append_left _ _ (by rw[Cf hc];exact h2),DX hc hj x h1,ifn (λe2=>e e2.symm)]
theorem EG(h:w.ownsRow B e s (.slice (some (Ad g 0)) n cap) n xs)(o:Nat)(x:Value):
  (w.setCell (Ad g o) x).ownsRow B e s (.slice (some (Ad g 0)) n cap) n (xs.set o x):=by
 refine⟨by rw[List.length_set];exact h.1,?_⟩
 rcases h.2 with⟨i,_⟩|⟨z,j,c,i,k,d,l,m,p,u⟩
 ·cases i
 cases i;refine .inr ⟨g,cap,c.setIfInBounds o x,rfl,k,by simp[World.setCell,Array.getElem?_modify,d],l,m,by simpa using p,?_⟩;rw[Array.toList_setIfInBounds,List.take_set,u]
theorem Dg{o:Nat}{x:Value}(h:w.ownsRow B e s (.slice (some (Ad g 0)) n cap) n xs)(c:xs[o]?=some x):w.cell? (Ad g o)=some x:=by
 have:=World.ownsRow.cells h (g:=g) rfl o _ c;rw[Addr.add_lit,Nat.zero_add]at this;exact this
theorem DK(h:w.ownsRow B e s (.slice (some (Ad g 0)) n cap) n xs)(o:Nat):w.frozen? (Ad g o)=false:=by
 rcases h.2 with⟨d,_⟩|⟨k,i,j,d,l,c,_⟩
 ·cases d
 cases d;simp[World.frozen?,c]
theorem DL(h:w.ownsRow B e s v n xs)(hn:0<n):∃g cap,v=.slice (some (Ad g 0)) n cap/\B<=g/\g<w.heap.size/\n<=cap/\cap<=maxLen:=by
 rcases h.2 with⟨_,d⟩|⟨g,cap,i,rfl,d,c,j,k,_⟩
 ·omega
 exact⟨g,cap,rfl,d,(Array.getElem?_eq_some_iff.1 c).1,j,k⟩
theorem AC(h:w.ownsRow B e s v n xs):∃a cap,v=.slice a n cap/\n<=cap/\cap<=maxLen:=by
 rcases h.2 with⟨rfl,c⟩|⟨g,cap,d,rfl,c,k,i,j,_⟩
 ·exact⟨none,0,by rw[c],by omega,Nat.zero_le _⟩
 exact⟨_,cap,rfl,i,j⟩
theorem PH{l:Nat}{e':TypeId}{C A:Nat}{v':Value}{i:List Value}(h:w.ownsRow B e s v n xs)(u:w.ownsRow l e' C v' A i)(z:e≠e')(hb:v.ownBlock=some b):v'.ownBlock≠some b:=by
 rcases h.2 with⟨rfl,_⟩|⟨g,m,o,rfl,_,d,_⟩
 ·cases hb
 rcases u.2 with⟨rfl,_⟩|⟨D,j,k,rfl,_,c,_⟩
 ·simp[Value.ownBlock]
 simp[Value.ownBlock]at hb ⊢;intro p;subst hb;subst p;rw[d]at c;simp at c;exact z c.2
theorem Bn{c:World}(h:w.ownsRow B e s v n xs)(d:w.grownBy c z)(i:∀b,v.ownBlock=some b->z≠some b):c.ownsRow B e s v n xs :=
 World.ownsRow.kept h d (by
  cases g:v.ownBlock with
  |none=>exact .inl rfl
  |some b=>exact .inr (λe=>i b g e.symm))
theorem Dh(h:w.ownsRow B e s v n xs){p:Addr}(c:v.ownBlock≠some p.block)(x:Value):(w.setCell p x).ownsRow B e s v n xs :=
 Bn h (z:=some p.block) ⟨rfl,rfl,rfl,by simp,λq _ d=>blk_setCell_other _ _ _ _ (λe=>d (by rw[e]))⟩ (λb hb e=>c (by rw[hb,e]))
def arc4(D:MD)(i k:Nat):List Value:=[.int .i64 (D.ain i k),.int .i64 (D.aout i k),.string (D.aw i k),.int .i64 (D.ato i k)]
def st2(D:MD)(R:Nat->Value)(i:Nat):List Value:=[.string (D.fin i),R i]
structure OwM(w:World)(B:Nat)(sv:Value)(D:MD)(R:Nat->Value):Prop where
 top:w.ownsRow B 57 2 sv D.n (cat (st2 D R) D.n)
 row:∀i,i<D.n->w.ownsRow B 59 4 (R i) (D.na i) (cat (arc4 D i) (D.na i))
 apart:∀i j,i<D.n->j<D.n->i≠j->∀b,(R i).ownBlock=some b->(R j).ownBlock≠some b
def AJ(kd:Int)(start:Int)(lead:ByteArray):MD:=⟨kd,start,lead,0,λ_=>⟨#[]⟩,λ_=>0,λ_ _=>0,λ_ _=>0,λ_ _=>⟨#[]⟩,λ_ _=>0⟩
def MD.state(D:MD)(f:ByteArray):MD:={ D with n:=D.n+1,fin:=λi=>if i=D.n then f else D.fin i,na:=λi=>if i=D.n then 0 else D.na i }
def MD.setFin(D:MD)(q:Nat)(f:ByteArray):MD:={ D with fin:=λi=>if i=q then f else D.fin i }
def MD.arc(D:MD)(q:Nat)(a b:Int)(x:ByteArray)(t:Int):MD :=
 { D with
  na:=λi=>if i=q then D.na q+1 else D.na i
  ain:=λi k=>if i=q/\k=D.na q then a else D.ain i k
  aout:=λi k=>if i=q/\k=D.na q then b else D.aout i k
  aw:=λi k=>if i=q/\k=D.na q then x else D.aw i k
  ato:=λi k=>if i=q/\k=D.na q then t else D.ato i k }
theorem DV(D:MD)(i k:Nat):(arc4 D i k).length=4:=rfl
theorem CP(D:MD)(R:Nat->Value)(i:Nat):(st2 D R i).length=2:=rfl
theorem OwM.empty(w:World)(B:Nat)(c st:Int)(d:ByteArray)(R:Nat->Value):OwM w B (.slice none 0 0) (AJ c st d) R :=
 ⟨World.ownsRow_nil w B _ 2,λ_ hi=>absurd hi (Nat.not_lt_zero _),λ_ _ hi=>absurd hi (Nat.not_lt_zero _)⟩
namespace OwM
variable{w w':World}{B:Nat}{sv:Value}{D:MD}{R:Nat->Value}
theorem kept(h:OwM w B sv D R)(c:w.grownBy w' z)(d:∀k,z=some k->k<B):OwM w' B sv D R :=
 ⟨Bn h.top c (λb hb e=>by have:=d b e;have:=(World.ownsRow.lt h.top b hb).1;omega),
  λi hi=>Bn (h.row i hi) c (λb hb e=>by have:=d b e;have:=(World.ownsRow.lt (h.row i hi) b hb).1;omega),h.apart⟩
theorem other(h:OwM w B sv D R){p:Addr}(c:sv.ownBlock≠some p.block)(d:∀i,i<D.n->(R i).ownBlock≠some p.block)(v:Value):OwM (w.setCell p v) B sv D R :=
 ⟨Dh h.top c v,λi hi=>Dh (h.row i hi) (d i hi) v,h.apart⟩
theorem tne(h:OwM w B sv D R)(hi:i<D.n)(hb:(R i).ownBlock=some b):sv.ownBlock≠some b :=
 PH (h.row i hi) h.top (by decide) hb
theorem fin_cell(h:OwM w B (.slice (some (Ad g 0)) D.n cap) D R)(hi:i<D.n):w.cell? (Ad g (i*2))=some (.string (D.fin i)) :=
 Dg h.top (by have:=Cv (CP D R) (i:=i) (j:=0) (by omega) hi;rw[Nat.add_zero]at this;rw[this];rfl)
theorem arcs_cell(h:OwM w B (.slice (some (Ad g 0)) D.n cap) D R)(hi:i<D.n):w.cell? (Ad g (i*2+1))=some (R i) :=
 Dg h.top (by rw[Cv (CP D R) (i:=i) (j:=1) (by omega) hi];rfl)
theorem sts(h:OwM w B sv D R):StS none w sv D:=by
 by_cases p:D.n=0
 ·obtain⟨a,l,m,_,d⟩:=AC h.top;exact .inl ⟨p,a,l,by rw[m,p],d⟩
 obtain⟨g,l,rfl,_,E,u,z⟩:=DL h.top (by omega);refine .inr ⟨g,0,l,R,rfl,⟨E,by simp⟩,u,z,λi hi=>⟨by rw[Nat.zero_add];exact h.fin_cell hi,by rw[Nat.zero_add];exact h.arcs_cell hi,?_⟩⟩;have o:=h.row i hi;by_cases s:D.na i=0
 ·obtain⟨a,c,m,_,d⟩:=AC o;exact .inl ⟨s,a,c,by rw[m,s],d⟩
 obtain⟨b,c,m,_,hb,A,C⟩:=DL o (by omega);rw[m]at o;refine .inr ⟨b,0,c,m,⟨hb,by simp⟩,A,C,λk G=>?_⟩;have d:∀j x,j<4->(arc4 D i k)[j]?=some x->w.cell? (Ad b (k*4+j))=some x:=λj x F H=>Dg o (by rw[Cv (DV D i) F G];exact H);rw[Nat.zero_add];exact⟨d 0 _ (by omega) rfl,d 1 _ (by omega) rfl,d 2 _ (by omega) rfl,d 3 _ (by omega) rfl⟩
theorem state{d:Value}{o:Obj}{f:ByteArray}(h:OwM w B sv D R)(m:w'.ownsRow B 57 2 d (D.n+1) (cat (st2 D R) D.n++[.string f,.slice none 0 0]))(p:(w.alloc o).grownBy w' sv.ownBlock):
  OwM w' B d (D.state f) (λi=>if i=D.n then .slice none 0 0 else R i):=by
 refine⟨?_,λi hi=>?_,λi j hi s g b hb=>?_⟩
 ·have e:cat (st2 (D.state f) (λi=>if i=D.n then .slice none 0 0 else R i)) (D.n+1)=cat (st2 D R) D.n++[.string f,.slice none 0 0]:=by
   rw[Dn]
   congr 1
   ·exact BH λi hi=>by simp[st2,MD.state,show i≠D.n by omega]
   simp[st2,MD.state]
  show w'.ownsRow B 57 2 d (D.n+1) (cat _ (D.n+1));rw[e];exact m
 ·by_cases e:i=D.n
  ·subst e;show w'.ownsRow B _ 4 (if D.n=D.n then _ else _) (if D.n=D.n then 0 else D.na D.n) (cat (arc4 (D.state f) D.n) (if D.n=D.n then 0 else D.na D.n))
   rw[ifp rfl,ifp rfl];exact World.ownsRow_nil w' B 59 4
  have c:i<D.n:=by have:i<D.n+1:=hi;omega
  show w'.ownsRow B _ 4 (if i=D.n then _ else R i) (if i=D.n then 0 else D.na i) (cat (arc4 D i) (if i=D.n then 0 else D.na i))
  rw[ifn e,ifn e];exact Bn (World.ownsRow.alloc (h.row i c) o) p (λb hb=>h.tne c hb)
 have c:i<D.n+1:=hi;have u:j<D.n+1:=s;by_cases k:i=D.n
 ·simp only[ifp k]at hb;cases hb
 simp only[ifn k]at hb;by_cases l:j=D.n
 ·simp only[ifp l];simp[Value.ownBlock]
 simp only[ifn l];exact h.apart i j (by omega) (by omega) g b hb
theorem setFin{g cap q:Nat}(h:OwM w B (.slice (some (Ad g 0)) D.n cap) D R)(j:q<D.n)(f:ByteArray):OwM (w.setCell (Ad g (q*2)) (.string f)) B (.slice (some (Ad g 0)) D.n cap) (D.setFin q f) R:=by
 refine⟨?_,λi hi=>Dh (p:=(Ad g (q*2))) (h.row i hi) (λe=>h.tne hi e rfl) (.string f),h.apart⟩;have c:=EG h.top (q*2+0) (.string f);rw[DX (CP D R) (by omega) _ j,BH (d:=st2 (D.setFin q f) R) (λi hi=>by
  by_cases e:i=q
  ·subst e;rw[ifp rfl];simp[st2,MD.setFin]
  rw[ifn e];simp[st2,MD.setFin,e])]at c
 exact c
theorem arc{g cap q:Nat}{v':Value}{o:Obj}{a b t:Int}{x:ByteArray}(h:OwM w B (.slice (some (Ad g 0)) D.n cap) D R)(C:q<D.n)
  (I:w'.ownsRow B 59 4 v' (D.na q+1) (cat (arc4 D q) (D.na q)++[.int .i64 a,.int .i64 b,.string x,.int .i64 t])) (H:(w.alloc o).grownBy w' (R q).ownBlock)
  (z:∀c,v'.ownBlock=some c->(R q).ownBlock=some c\/w.heap.size<=c) :
  OwM (w'.setCell (Ad g (q*2+1)) v') B (.slice (some (Ad g 0)) D.n cap) (D.arc q a b x t) (λi=>if i=q then v' else R i):=by
 have K:w'.ownsRow B 57 2 (.slice (some (Ad g 0)) D.n cap) D.n (cat (st2 D R) D.n):=Bn (World.ownsRow.alloc h.top o) H (λc l e=>h.tne C e.symm.symm l);have L:v'.ownBlock≠some g:=λe=>by
  rcases z g e with u|u
  ·exact h.tne C u rfl
  have:=(World.ownsRow.lt h.top g rfl).2;omega
 refine⟨?_,λi hi=>?_,λi j hi A s c l=>?_⟩
 ·have G:=EG K (q*2+1) v';rw[DX (CP D R) (by omega) _ C,BH (d:=st2 (D.arc q a b x t) (λi=>if i=q then v' else R i)) (λi hi=>by
   by_cases e:i=q
   ·subst e;rw[ifp rfl];simp[st2,MD.arc]
   rw[ifn e];simp[st2,MD.arc,e])]at G
  exact G
 ·by_cases e:i=q
  ·subst e;show World.ownsRow _ B _ 4 (if i=i then v' else R i) (if i=i then D.na i+1 else D.na i) (cat _ (if i=i then D.na i+1 else D.na i))
   rw[ifp rfl,ifp rfl,Dn,BH (d:=arc4 D i) (λk J=>by simp[arc4,MD.arc,show k≠D.na i by omega])];have m:arc4 (D.arc i a b x t) i (D.na i)=[.int .i64 a,.int .i64 b,.string x,.int .i64 t]:=by simp[arc4,MD.arc]
   rw[m];exact Dh I (by exact L) _
  show World.ownsRow _ B _ 4 (if i=q then v' else R i) (if i=q then D.na q+1 else D.na i) (cat _ (if i=q then D.na q+1 else D.na i))
  rw[ifn e,ifn e,BH (d:=arc4 D i) (λk J=>by simp[arc4,MD.arc,e])];exact Dh (p:=(Ad g (q*2+1))) (Bn (World.ownsRow.alloc (h.row i hi) o) H (λc l m=>h.apart i q hi C e c l m)) (λm=>h.tne hi m rfl) v'
 by_cases E:i=q
 ·subst E;simp only[if_pos]at l;simp only[ifn (λe:j=i=>s e.symm)]
  rcases z c l with u|u
  ·exact h.apart i j hi A s c u
  intro m;have:=(World.ownsRow.lt (h.row j A) c m).2;omega
 simp only[ifn E]at l;by_cases F:j=q
 ·subst F;simp only[if_pos];intro m
  rcases z c m with u|u
  ·exact h.apart i j hi A s c l u
  have:=(World.ownsRow.lt (h.row i hi) c l).2;omega
 simp only[ifn F];exact h.apart i j hi A s c l
end OwM
end
section
open Go.RowKit Go.Deep
variable{b:Nat}{w:World}{d st:Int}{sv:Value}{g:ByteArray}{t:TypeId}
def Box4(w:World)(b:Nat)(kd st:Int)(ld:ByteArray)(sv:Value):Prop:=w.heap[b]?=some (.cells #[.int .i64 kd,.int .i64 st,.string ld,sv] 24 (0,0))
theorem AG(w:World)(b:Nat)(c d g i:Value){j k l m:Value}(h:w.heap[b]?=some (.cells #[j,k,l,m] t (0,0))):(w.setCells b 0 [c,d,g,i]).heap[b]?=some (.cells #[c,d,g,i] t (0,0)):=by
 simp[World.setCells,World.setCell,Array.getElem?_modify,h]
theorem AF{B:Nat}{a:World}(h:Below B a w)(hb:B<=b)(c d g i:Value):Below B a (w.setCells b 0 [c,d,g,i]) :=
 (((h.setCell (p:=(Ad b 0)) hb c).setCell (p:=(Ad b (0+1))) hb d).setCell (p:=(Ad b (0+1+1))) hb g).setCell (p:=(Ad b (0+1+1+1))) hb i
theorem z1j{c d g i:Value}(h:w.heap[b]?=some (.cells #[c,d,g,i] t (0,0))):w.there b 0 4:=by
 intro j k;have:j=0\/j=1\/j=2\/j=3:=by omega
 rcases this with rfl|rfl|rfl|rfl<;>simp[World.cell?,World.frozen?,h]
theorem Box4.range(h:Box4 w b d st g sv):w.rangeAt b 0 [.int .i64 d,.int .i64 st,.string g,sv]:=by
 intro j v c;unfold Box4 at h;have i:j<4:=by have:=(List.getElem?_eq_some_iff.1 c).1;simpa using this
 have:j=0\/j=1\/j=2\/j=3:=by omega
 rcases this with rfl|rfl|rfl|rfl<;>(simp at c;subst c;simp[World.cell?,h])
theorem PX{c:Int}{d:ByteArray}(h:Box4 w b c st d sv):(loadVar 24 (Ad b 0)).run prog w=.ok (.agg #[.int .i64 c,.int .i64 st,.string d,sv]) w :=
 run_loadVar_mid (P:=prog) w b 0 24 [.int .i64 c,.int .i64 st,.string d,sv] _ h.range underlying24 rfl (by kernel_rfl)
theorem KG{fn:Func}{p:Tmp}(h:fn.results=#[.cell p 24])(c:Array Value)(i:c.getD p undef=.pointer (some (Ad b 0)))(hb:Box4 w b d st g sv):
  (results fn c).run prog w=.ok (.agg #[.int .i64 d,.int .i64 st,.string g,sv]) w:=by
 rw[KE h,i];show ((loadVar 24 (Ad b 0)).run prog w)=_;exact PX hb
theorem AH{fn:Func}{p u:Tmp}(h:fn.results=#[.cell p 24,.tmp u])(c:Array Value){v:Value}(i:c.getD p undef=.pointer (some (Ad b 0)))(j:c.getD u undef=v)(hb:Box4 w b d st g sv):
  (results fn c).run prog w=.ok (.tuple #[.agg #[.int .i64 d,.int .i64 st,.string g,sv],v]) w:=by
 rw[results_cell_tmp h,i,j];show ((loadVar 24 (Ad b 0)).run prog w).andThen _=_;rw[PX hb];rfl
theorem PV{P:Program}(w:World)(dT I J d:TypeId)(s n:Nat)(g k:Nat)(z:Option Addr)(o:Nat)(c:Array Value)(t:TypeId)(cs:List Value)
  (u:P.underlying dT=some (.slice d)) (B:(P.info? d).map (·.size)=some s) (G:w.heap[g]?=some (.cells c t (0,0))) (F:cs.length=n*s) (A:c.size=n*s)
  (m:0<n->∃a,z=some a/\∀j v,cs[j]?=some v->w.cell? (a.add j)=some v) (D:∀v ∈ cs,v.oneCell'=true) :
  (Builtin.copy_ #[dT,I] J #[.slice (some (Ad g 0)) n k,.slice z n o]).run P w=.ok (goInt n) (w.setRow g cs.toArray):=by
 have h:=run_storeCells_at P g 0 t cs 0 c w G (by omega) D;have H:(c.toList.take (0+0)++cs++c.toList.drop (0+0+cs.length)).toArray=cs.toArray:=by
  rw[List.drop_eq_nil_of_le (by simp;omega)];simp
 rw[H]at h;cases l:P.info? d with
 |none=>simp[l]at B
 |some i =>
  have hi:i.size=s:=by simpa [l] using B
  by_cases C:n=0
  ·subst C;obtain rfl:cs=[]:=List.eq_nil_of_length_eq_zero (by omega);have p:∀(x:Addr),(loadCells x 0).run P w=.ok #[] w:=λx=>by simpa using run_loadCells_list (P:=P) w x [] (by simp)
   cases z with
   |none=>simp[Builtin.copy_,run_underlying u,Builtin.lenOf,Builtin.firstCells,sizeOf,typeInfo,l,h]
   |some a=>simp[Builtin.copy_,run_underlying u,Builtin.lenOf,Builtin.firstCells,sizeOf,typeInfo,l,p,h]
  obtain⟨a,rfl,E⟩:=m (by omega);have p:=run_loadCells_list (P:=P) w a cs E;rw[F]at p;simp[Builtin.copy_,run_underlying u,Builtin.lenOf,Builtin.firstCells,sizeOf,typeInfo,l,hi,p,h]
theorem KX{P:Program}(t e:TypeId)(z:Value)(s c:Nat)(u:P.underlying t=some (.slice e))(d:(P.info? e).map (λi=>(i.zero,i.size,i.bytes))=some (some z,s,c))
  (m kc:IntKind) (n:Nat) (j:c*n<=281474976710656) (o:n<=9223372036854775807) (w:World) :
  (Instr.makeSlice t (.int m (n:Int)) (.int kc (n:Int))).run P w=.ok (.slice (some (Ad w.heap.size 0)) n n) (w.alloc (.cells (madeCells z.cells (n*s)) e)):=by
 obtain⟨i,hi,g⟩:=Option.map_eq_some_iff.1 d;simp only[Prod.mk.injEq]at g;obtain⟨A,p,hb⟩:=g;have k:(i.bytes:Int)*(n:Int)<=281474976710656:=by
  have h:((i.bytes*n:Nat):Int)<=281474976710656:=by rw[hb];omega
  rwa [Int.natCast_mul]at h
 have l:=run_make (P:=P) w t e i z u hi A m kc n n (by omega) (Int.le_refl _) k (by omega);simp only[Int.toNat_natCast,p]at l;exact l
theorem VT(z:Array Value)(j:0<z.size)(n:Nat):(madeCells z (n*z.size)).toList=cat (λ_=>z.toList) n:=by
 refine List.ext_getElem? λi=>?_;by_cases h:i<n*z.size
 ·have d:i % z.size<z.size:=Nat.mod_lt _ j;have k:i / z.size<n:=(Nat.div_lt_iff_lt_mul j).2 h;have l:i / z.size*z.size+i % z.size=i:=by rw[Nat.mul_comm];exact Nat.div_add_mod i z.size
  have g:=Cv (c:=λ_=>z.toList) (s:=z.size) (λ_=>by simp) d k;rw[l]at g;rw[g];have m:i<(madeCells z (n*z.size)).toList.length:=by simp[size_madeCells];exact h
  rw[List.getElem?_eq_getElem m];simp[madeCells,d]
 rw[List.getElem?_eq_none (by simp[size_madeCells];omega),List.getElem?_eq_none (by rw[Cf (s:=z.size) (λ_=>by simp)];omega)]
def AE:Value:=.agg #[.int .i64 0,.int .i64 0,.string ⟨#[]⟩,.slice none 0 0]
theorem cells4{w:World}{rb:Nat}{c v1 d g:Value}{t:TypeId}(h:w.heap[rb]?=some (.cells #[c,v1,d,g] t (0,0))):(w.cell? (Ad rb 0)=some c/\w.cell? (Ad rb 1)=some v1/\w.cell? (Ad rb 2)=some d/\w.cell? (Ad rb 3)=some g)/\∀j,w.frozen? (Ad rb j)=false :=
 ⟨⟨by simp[World.cell?,h],by simp[World.cell?,h],by simp[World.cell?,h],by simp[World.cell?,h]⟩,λj=>by simp[World.frozen?,h]⟩
theorem Hm:(prog.info? 57).map (λi=>(i.zero,i.size,i.bytes))=some (some (.agg #[.string ⟨#[]⟩,.slice none 0 0]),2,40):=by kernel_rfl
theorem Hl:(prog.info? 59).map (λi=>(i.zero,i.size,i.bytes))=some (some (.agg #[.int .i64 0,.int .i64 0,.string ⟨#[]⟩,.int .i64 0]),4,40):=by kernel_rfl
def MkE(V:Prop)(D:MD)(e:Nat)(w:World)(r:Ending)(w':World):Prop :=
 Below w.heap.size w w'/\((V/\∃sv R,r=.returned (.tuple #[.agg #[.int .i64 D.kind,.int .i64 D.start,.string D.lead,sv],.int .i64 0])/\OwM w' w.heap.size sv D R)\/(¬V/\r=.returned (.tuple #[AE,.int .i64 (e:Int)])))
end
end Go.Proofs.YteappjogmnogcaaGreatDoor
