/- Parts. -/
import Derived.Test.YteappjogmnogcaaGreatDoorZ13
import Derived.Test.YteappjogmnogcaaGreatDoorZ12
namespace Go.Proofs.YteappjogmnogcaaGreatDoor
set_option maxRecDepth 100000
set_option linter.all false
set_option maxHeartbeats 16000000
open Go Tryz
section
open Go.RowKit Go.Deep
variable{a:Act}{w:World}{g i:Nat}{v:Value}
theorem tryL{α:Type}:(∀(l:List α) (i:Nat) (a:α),l.toArray.setIfInBounds i a=(l.set i a).toArray)/\(∀(a b:α) (l:List α),(a::l).set 0 b=b::l)/\(∀(a b:α) (l:List α) (n:Nat),(a::l).set (n+1) b=a::l.set n b)/\(∀(l:List α) (i:Nat) (h:i<l.toArray.size),l.toArray[i]=l[i]'(by simpa using h))/\(∀(a:α) (l:List α) (i:Nat) (h:i+1<(a::l).length),(a::l)[i+1]=l[i]'(by simpa using h))/\(∀(a:α) (l:List α) (h:0<(a::l).length),(a::l)[0]=a) :=
 ⟨λ_ _ _=>List.setIfInBounds_toArray ..,λ_ _ _=>rfl,λ_ _ _ _=>rfl,λ_ _ _=>rfl,λ_ _ _ _=>rfl,λ_ _ _=>rfl⟩
section
variable{P:Program}{ops:Array Oper}{Q:Exit->Act->World->Prop}{S:World->Prop}{s:Nat}
def Aa(P:Program)(ops:Array Oper)(Q:Exit->Act->World->Prop)(S:World->Prop)(s:Nat):Nat->Array Bool->Act->World->Prop
 |0,listed,a,w=>Region.ready .any ops listed=[]/\Q .normal a w
 |fuel+1,listed,a,w=>(Region.ready .any ops listed=[]->Q .normal a w)/\
  ∀i ∈ Region.ready .any ops listed,wpOp P ops Q i (λa' w'=>(i=s\/S w')/\Aa P ops Q S s fuel (listed.setIfInBounds i true) a' w') a w
theorem Aa.any:∀(fuel:Nat) (listed:Array Bool) (a:Act) (w:World),Aa P ops Q S s fuel listed a w->wpAny P .any ops Q fuel listed a w
 |0,_,_,_,h=>h
 |fuel+1,_,_,_,h=>⟨h.1,λi hi=>wpOp_mono (λa' w' h'=>Aa.any fuel _ a' w' h'.2) (h.2 i hi)⟩
def waits(ops:Array Oper):Nat->Nat->Nat->Bool
 |0,_,_=>false
 |f+1,s,i=>match ops[s]? with
  |some o=>o.after.any λe=>Region.binds .any e&&(e.on==i||waits ops f e.on i)
  |none=>false
def Closed(ops:Array Oper)(listed:Array Bool):Prop:=∀j o,listed.getD j false=true->ops[j]?=some o->∀e ∈ o.after,Region.binds .any e=true->listed.getD e.on false=true
def FL(ops:Array Oper)(listed:Array Bool):Bool:=(List.range ops.size).all λj=>!listed.getD j false||match ops[j]? with
 |some o=>o.after.all λe=>!Region.binds .any e||listed.getD e.on false
 |none=>true
def ME{c:Array Bool}(h:FL ops c=true):Closed ops c:=λj o l i e k hb=>by
 have d:=List.all_eq_true.1 h j (List.mem_range.2 (Array.getElem?_eq_some_iff.1 i).1);rw[l,i]at d;simp only[Bool.not_true,Bool.false_or]at d;have g:=Array.all_eq_true_iff_forall_mem.1 d e k;rw[hb]at g;simpa using g
def Closed.set{c:Array Bool}{j:Nat}(h:Closed ops c)(s:j ∈ Region.ready .any ops c):Closed ops (c.setIfInBounds j true):=λk o m p e l hb=>by
 by_cases g:j=k
 ·subst g;obtain⟨_,u,i,d⟩:=mem_ready.1 s;rw[p]at i;cases i;exact getD_set_true<|d e l hb
 rw[getD_set_ne false g]at m;exact getD_set_true<|h k o m p e l hb
def Rt{c:Array Bool}(u:Closed ops c):∀(f s:Nat),waits ops f s i=true->(∀o,ops[s]?=some o->∀e ∈ o.after,Region.binds .any e=true->c.getD e.on false=true)->c.getD i false=true:=by
 intro f
 induction f with
 |zero=>intro s h;simp[waits]at h
 |succ f ih =>
  intro s h A;unfold waits at h;cases k:ops[s]? with
  |none=>rw[k]at h;simp at h
  |some o =>
   rw[k]at h;obtain⟨e,z,hb⟩:=Array.any_eq_true'.1 h;simp only[Bool.and_eq_true,Bool.or_eq_true,beq_iff_eq]at hb;have m:=A o k e z hb.1
   rcases hb.2 with d|d
   ·rw[<-d];exact m
   exact ih e.on d (λB l p j g=>u e.on B m l p j g)
def Aa.first{F:Oper}(hi:ops[i]?=some F)(hw:waits ops ops.size s i=true)(C:∀(j:Nat) (o:Oper) cs b,ops[j]?=some o->o.op≠.select cs b)
  (hQ:∀c a w,Q (.panic c) (a.put F.dst v) w->Q (.panic c) a w) :
  ∀(g:Nat) (d:Array Bool) (a:Act) (w:World),
   (∀j oj,ops[j]?=some oj->j≠i->d.getD j true=false->(∀e ∈ oj.after,Region.binds .any e=true->e.on≠i)->F.apart ops oj=true) ->
   i ∈ Region.ready .any ops d->Closed ops d->YieldsIf P ops S F v a->S w ->
   Aa P ops Q S s g (d.setIfInBounds i true) (a.put F.dst v) w->Aa P ops Q S s (g+1) d a w:=by
 intro g
 induction g with
 |zero =>
  intro d a w _ E D T G H;refine⟨λh=>(by rw[h]at E;cases E),λj J=>?_⟩;by_cases l:j=i
  ·subst l;exact T.wpOp hi G ⟨.inr G,H⟩
  have:=ready_mono J l;rw[H.1]at this;cases this
 |succ g ih =>
  intro d a w m E D T G H;refine⟨λh=>(by rw[h]at E;cases E),λj J=>?_⟩;by_cases l:j=i
  ·subst l;exact T.wpOp hi G ⟨.inr G,H⟩
  have R:=H.2 j (ready_mono J l);obtain⟨B,oj,z,A⟩:=mem_ready.1 J;have p:d.getD i false=false:=by
   have h0:=(mem_ready.1 E).1
   rcases Nat.lt_or_ge i d.size with U|U
   ·simp[U]at h0 ⊢;exact h0
   simp[Array.getElem?_eq_none U]
  have L:∀e ∈ oj.after,Region.binds .any e=true->e.on≠i:=λe X hb Y=>by
   have R:=A e X hb;rw[Y,p]at R;cases R
  have Z:j≠s:=λe=>by
   subst e;have:=Rt D _ _ hw (λo' N e X hb=>by rw[z]at N;cases N;exact A e X hb);rw[p]at this;cases this
  have h2:=wpOp_putIf z (m j oj z l B L) (λcs b=>C i F cs b hi) (λcs b=>C j oj cs b z) hQ T R;have u:∀k ok,ops[k]?=some ok->k≠i->(d.setIfInBounds j true).getD k true=false ->
    (∀e ∈ ok.after,Region.binds .any e=true->e.on≠i)->F.apart ops ok=true:=λk ok hk a1 O a2=>by
   refine m k ok hk a1 ?_ a2;by_cases K:j=k
   ·subst K;exact B
   rw[getD_set_ne true K]at O;exact O
  refine wpOp_mono (λa' w' W=>?_) h2;have I:S w':=W.2.1.resolve_left Z;refine⟨.inr I,ih (d.setIfInBounds j true) a' w' u (ready_mono E (Ne.symm l)) (D.set J) W.1 I ?_⟩;rw[Array.setIfInBounds_comm _ _ l];exact W.2.2
def Aa.take{j:Oper}{d:Array Bool}(hi:ops[i]?=some j)(p:waits ops ops.size s i=true)(k:FL ops d=true)
  (o:Region.noSelect ops=true) (hf:Region.free .any ops d i=true) (m:(Region.ready .any ops d).contains i=true)
  (hQ:∀c a w,Q (.panic c) (a.put j.dst v) w->Q (.panic c) a w) (l:S w) (u:YieldsIf P ops S j v a)
  (h:Aa P ops Q S s g (d.setIfInBounds i true) (a.put j.dst v) w):Aa P ops Q S s (g+1) d a w :=
 Aa.first hi p (Region.noSelect_spec o) hQ g d a w (Region.free_spec hi hf) (by simpa using m) (ME k) u l h
def tkB(ops:Array Oper)(s i:Nat)(listed:Array Bool):Bool:=waits ops ops.size s i&&FL ops listed&&Region.noSelect ops&&Region.free .any ops listed i&&(Region.ready .any ops listed).contains i
def Aa.tk{j:Oper}{d:Array Bool}(hi:ops[i]?=some j)(hb:tkB ops s i d=true)(k:S w)(l:YieldsIf P ops S j v a)
  (h:Aa P ops Q S s g (d.setIfInBounds i true) (a.put j.dst v) w) (hQ:∀c a w,Q (.panic c) (a.put j.dst v) w->Q (.panic c) a w:=by exact λ_ _ _ h=>h):Aa P ops Q S s (g+1) d a w:=by
 unfold tkB at hb;simp only[Bool.and_eq_true]at hb;exact Aa.take hi hb.1.1.1.1 hb.1.1.1.2 hb.1.1.2 hb.1.2 hb.2 hQ k l h
def Aa.one{o:Oper}{d:Nat}{c:Array Bool}(A:ops[i]?=some o)(m:Region.ready .any ops c=[i])(g:Region.wanted o (yielded ops a.tmps)=true)
  (h:∀K:Act->World->Prop,Shut (∀a w,(i=s\/S w)->Aa P ops Q S s d (c.setIfInBounds i true) a w->K a w)->Oper.wp P o a w K Q):Aa P ops Q S s (d+1) c a w:=by
 refine⟨λk=>(by rw[m]at k;cases k),λj l=>?_⟩;rw[m]at l;obtain rfl:j=i:=by simpa using l
 exact wpOp_step A (λK p=>by rw[ifp g];exact h K (λa w u z=>p a w ⟨u,z⟩))
def Aa.tm(i:Nat){j:Oper}{d:Array Bool}(k:S w)
  (h:Aa P ops Q S s g (d.setIfInBounds i true) (a.put j.dst v) w) (hi:ops[i]?=some j:=by rfl) (hb:tkB ops s i d=true:=by kernel_rfl) (l:Region.wanted j (yielded ops a.tmps)=true:=by kernel_rfl)
  (m:∀w,S w->(execOp a.eval j).run P w=.ok (.value v) w:=by (intro w h;go_simp;try with_reducible rfl)) (hQ:∀c a w,Q (.panic c) (a.put j.dst v) w->Q (.panic c) a w:=by exact λ_ _ _ h=>h):Aa P ops Q S s (g+1) d a w:=Aa.tk hi hb k (.inl ⟨l,m⟩) h hQ
def Aa.ts(i:Nat){j:Oper}{d:Array Bool}(k:S w)
  (h:Aa P ops Q S s g (d.setIfInBounds i true) (a.put j.dst undef) w) (hi:ops[i]?=some j:=by rfl) (hb:tkB ops s i d=true:=by kernel_rfl) (l:Region.wanted j (yielded ops a.tmps)=false:=by kernel_rfl)
  (hQ:∀c a w,Q (.panic c) (a.put j.dst undef) w->Q (.panic c) a w:=by exact λ_ _ _ h=>h):Aa P ops Q S s (g+1) d a w:=Aa.tk hi hb k (.inr ⟨l,rfl⟩) h hQ
def Aa.on(i:Nat){o:Oper}{d:Nat}{c:Array Bool}(h:∀K:Act->World->Prop,Shut (∀a w,(i=s\/S w)->Aa P ops Q S s d (c.setIfInBounds i true) a w->K a w)->Oper.wp P o a w K Q)
  (j:ops[i]?=some o:=by rfl) (k:Region.ready .any ops c=[i]:=by kernel_rfl) (g:Region.wanted o (yielded ops a.tmps)=true:=by rfl):Aa P ops Q S s (d+1) c a w:=Aa.one j k g h
def tkH(ops:Array Oper)(i:Nat)(listed:Array Bool):Bool:=Region.noSelect ops&&Region.free .any ops listed i&&(Region.ready .any ops listed).contains i
def hTm(i:Nat){j:Oper}{d:Array Bool}(k:S w)
  (h:wpAnyH P .any ops Q S g (d.setIfInBounds i true) (a.put j.dst v) w) (hi:ops[i]?=some j:=by rfl) (hb:tkH ops i d=true:=by kernel_rfl) (l:Region.wanted j (yielded ops a.tmps)=true:=by kernel_rfl)
  (m:∀w,S w->(execOp a.eval j).run P w=.ok (.value v) w:=by (intro w h;go_simp;try with_reducible rfl)) (hQ:∀c a w,Q (.panic c) (a.put j.dst v) w->Q (.panic c) a w:=by exact λ_ _ _ h=>h):wpAnyH P .any ops Q S (g+1) d a w:=by
 unfold tkH at hb;simp only[Bool.and_eq_true]at hb;exact wpAnyH_take hi hb.1.1 hb.1.2 hb.2 hQ (.inl ⟨l,m⟩) k h
def hTs(i:Nat){j:Oper}{d:Array Bool}(k:S w)
  (h:wpAnyH P .any ops Q S g (d.setIfInBounds i true) (a.put j.dst undef) w) (hi:ops[i]?=some j:=by rfl) (hb:tkH ops i d=true:=by kernel_rfl) (l:Region.wanted j (yielded ops a.tmps)=false:=by kernel_rfl)
  (hQ:∀c a w,Q (.panic c) (a.put j.dst undef) w->Q (.panic c) a w:=by exact λ_ _ _ h=>h):wpAnyH P .any ops Q S (g+1) d a w:=by
 unfold tkH at hb;simp only[Bool.and_eq_true]at hb;exact wpAnyH_take hi hb.1.1 hb.1.2 hb.2 hQ (.inr ⟨l,rfl⟩) k h
def Aa.done{listed:Array Bool}(hr:Region.ready .any ops listed=[])(h:Q .normal a w):∀fuel,Aa P ops Q S s fuel listed a w
 |0=>⟨hr,h⟩
 |_+1=>⟨λ_=>h,by rw[hr];simp⟩
theorem Aa.dn{c:Array Bool}{d:Nat}(h:Q .normal a w)(g:Region.ready .any ops c=[]:=by kernel_rfl):Aa P ops Q S s d c a w:=Aa.done g h d
def Au(S:World->Prop)(s:Nat){d:Nat}(c:P.follows .mixedOrders=true)
  (h:Aa P ops Q S s ops.size (Array.replicate ops.size false) a w.drew):(Code.region d ops true).wp P Q a w :=
 wp_region_any c (Aa.any _ _ _ _ h)
end
end
section
open Go.RowKit Go.Deep
variable{b c e n:Nat}{k:KK}{w:World}
def UF:∀args w,(callFunc 183 args).run prog w=.ok (.enter 183 args) w:=λargs w=>by kernel_rfl
def EachE{k:KK}(F:Prop)(B tb sb g n e:Nat)(R:Nat->Value)(M:Nat->Nat->RK k)(w:World)(r:Ending)(w':World):Prop :=
 ∃e' Y,r=.returned (.tuple #[])/\Tb w' k.1 B tb sb g n e' R Y/\MatIs e' n Y (CSR.elims M n)/\Er F e'/\(e'=0->e=0)/\Gr B (some sb) w w'
def Up{F:Prop}{N B P E g:Nat}{R:Nat->Value}{X:Nat->Nat->ByteArray}{M:Nat->Nat->RK k}{a:Option Addr}{cap m:Nat}{Q:Nat->Value}(hn:n<=60)
  (T:0<n->a=some (Ad b m)) (hb:0<n->b<B/\b≠E) (c:∀i,i<n->w.cell? (Ad b (m+i))=some (Q i))
  (J:Tb w k.1 B P E g n e R X) (L:MatIs e n X M) (he:Er F e) (S:F->∀p,p<n->FitE n p (CSR.elims M p)) (ht:TabB N w) (hB:N<=E) :
  Calls prog 182 #[.slice a n cap,.func (.func 183) #[.pointer (some (Ad P 0))] #[]] w (EachE F B P E g n e R M w):=by
 have a2:=UF;have C:=qh J;clear J;have H:=qh L;clear L;have G:=qh he;clear he;replace S:=qh S;have d:=qh ht;clear ht;replace c:=qh c;replace T:=qh T;replace hb:=qh hb
 go_enter func182,ntmps182
 go_wp2_with fail
 go_loopw [8] (λi wr=>∃(q D:Nat) (Y:Nat->Nat->ByteArray),q<=n/\i=.int .i64 (q:Int)/\Tb wr k.1 B P E g n D R Y/\MatIs D n Y (CSR.elims M q)/\Er F D/\(D=0->e=0)/\TabB N wr/\Gr B (some E) w wr)
  (λi _=>n-(intOf i).toNat)
 case atStart=>exact⟨0,e,X,Nat.zero_le _,rfl,C.o,H.o,G.o,λh=>h,d.o,Gr.refl _ _ _⟩
 obtain⟨q,D,Y,hq,rfl,J,L,hE,O,K,I⟩:=hrel;clear C H G d;have C:=qh J;clear J;have H:=qh L;clear L;have G:=qh hE;clear hE;replace O:=qh O;have d:=qh K;clear K;replace I:=qh I;by_cases z:q<n
 ·have a4:(q:Int)<(n:Int):=by omega
  have a1:(0:Int)<=(q:Int):=by omega
  obtain rfl:=T.o (by omega);obtain⟨U,W⟩:=hb.o (by omega);have c0:wr.cell? (Ad b (m+q))=some (Q q):=(World.cell?_of_block (w:=w) (a:=(Ad b (m+q))) (I.o.block b U (by simp;exact W))).trans (c.o q z)
  go_wp2_with fail
  refine(Xb (Q q) hn z C.o H.o G.o (λf=>S.o f q z) d.o hB).mono ?_;rintro r w1⟨e1,Y1,rfl,s,u,o,A,l⟩;have j:TabB N w1:=d.o.gr l (by intro q hq;cases hq;exact hB) (by have:=C.o.sbB;omega);replace s:=qh s;replace u:=qh u;replace o:=qh o;replace A:=qh A;replace l:=qh l;replace j:=qh j;clear c0;go_wp2;go_roundw
  case rel=>exact⟨q+1,e1,Y1,by omega,by go_num,s.o,u.o,o.o,λh=>O.o (A.o h),j.o,I.o.trans l.o⟩
  simp[intOf];omega
 have Z:q=n:=by omega
 subst Z;have a3:¬((q:Int)<(q:Int)):=by omega
 go_wp2_with fail
 go_end0
 exact⟨D,Y,rfl,C.o,H.o,G.o,O.o,I.o⟩
structure FitM{k:KK}(n:Nat)(M:Nat->Nat->RK k):Prop where
 steps:∀p,p<n->FitE n p (CSR.elims M p)
 last:∀i,i<n->fitV (CSR.elims M n i i+CSR.one).1
def PowE{k:KK}(F:Prop)(sb n e:Nat)(M:Nat->Nat->RK k)(w:World)(r:Ending)(w':World):Prop :=
 ∃v e' Y,r=.returned v/\Mt (some sb) w' v n (λ_=>n) Y/\MatIs e' n Y (CSR.starM M n)/\Er F e'/\(e'=0->e=0)/\SumB w' sb k.1 e'/\w.grownBy w' (some sb)
def PW(w:World)(sb n:Nat):World:=(w.alloc (.cells (madeCells #[.slice none 0 0] n) 79)).alloc (.cells #[.pointer (some (Ad sb 0)),.slice (some (Ad w.heap.size 0)) n n] 184)
def RO(w:World)(c n:Nat):(PW w c n).heap[w.heap.size+1]?=some (.cells #[.pointer (some (Ad c 0)),.slice (some (Ad w.heap.size 0)) n n] 184 (0,0)):=by
 have:=han (w.alloc (.cells (madeCells #[.slice none 0 0] n) 79)) (.cells #[.pointer (some (Ad c 0)),.slice (some (Ad w.heap.size 0)) n n] 184);rw[show (w.alloc (.cells (madeCells #[.slice none 0 0] n) 79)).heap.size=w.heap.size+1 by simp]at this;exact this
def RN(w:World)(c n:Nat)(X:Nat->Nat->ByteArray):OM (PW w c n) (λb=>b=w.heap.size+1) w.heap.size 9 79 w.heap.size n (λ_=>.slice none 0 0) (λl=>if l<0 then n else 0) X:=by
 have h:=(OM.made w (λ_=>False) (by simp) w.heap.size nlr 9 79 n X).fence (.cells #[.pointer (some (Ad c 0)),.slice (some (Ad w.heap.size 0)) n n] 184);rw[show (w.alloc (.cells (madeCells #[.slice none 0 0] n) 79)).heap.size=w.heap.size+1 by simp]at h;exact h.congrL λ_ _=>by simp
def RL(w:World)(c n:Nat):Below w.heap.size w (PW w c n):=(blr.alloc nlr _).alloc (by simp) _
def Zk{X:Nat->ByteArray}(h:∀j,j<n->w.cell? (Ad b (c+j))=some (.string (X j))):∀j u,(strs n X)[j]?=some u->w.cell? (((Ad b c):Addr).add j)=some u:=by
 intro j u d;have i:j<n:=by
  rcases Nat.lt_or_ge j n with g|g
  ·exact g
  rw[List.getElem?_eq_none (by rw[Fz];exact g)]at d;cases d
 rw[Fy _ _ _ i]at d;cases d;rw[Addr.add_lit];exact h j i
def ZG{wr wa:World}{o:Obj}{z:Option Nat}(h:wr.heap[c]?=some o)(d:wr.drew.grownBy wa z)(i:some c≠z){p:Addr}(g:c≠p.block)(v:Value):(wa.setCell p v).heap[c]?=some o:=by
 rw[blk_setCell_other _ _ _ _ g,d.block c (Array.getElem?_eq_some_iff.1 h).1 i];exact h
def Diag{k:KK}(e n c:Nat)(Z:Nat->Nat->ByteArray)(N:Nat->Nat->RK k):Prop:=∀l j,l<n->j<n->Is k e (Z l j) (if l=j/\l<c then N l j+CSR.one else N l j)
theorem Diag.start{Z:Nat->Nat->ByteArray}{N:Nat->Nat->RK k}(h:MatIs e n Z N):Diag e n 0 Z N:=λl j d c=>by rw[ifn (by omega)];exact h l j d c
def Diag.next{e':Nat}{Z:Nat->Nat->ByteArray}{N:Nat->Nat->RK k}{u:ByteArray}(h:Diag e n c Z N)(i:e'=0->e=0)(p:Is k e' u (N c c+CSR.one)):Diag e' n (c+1) (λl j=>if l=c/\j=c then u else Z l j) N:=λl j o m=>by
 by_cases d:l=c/\j=c
 ·obtain⟨rfl,rfl⟩:=d;rw[ifp (by omega)];simpa using p
 have:=(h l j o m).mono i;simp only[ifn d];by_cases g:l=j/\l<c
 ·rw[ifp g]at this;rw[ifp (by omega)];exact this
 rw[ifn g]at this;rw[ifn (by omega)];exact this
def Diag.done{Z:Nat->Nat->ByteArray}{M:Nat->Nat->RK k}(h:Diag e n n Z (CSR.elims M n)):MatIs e n Z (CSR.starM M n):=λl j d g=>by
 have:=h l j d g;unfold CSR.starM CSR.eye;by_cases c:l=j
 ·rw[ifp ⟨c,d⟩]at this;rw[ifp c];exact this
 rw[ifn (λh=>c h.1)]at this;rw[ifn c,CSR.a0];exact this
abbrev S4(a b c d:Addr)(u v x y:Value)(wk:World):Prop:=wk.cell? a=some u/\wk.cell? b=some v/\wk.cell? c=some x/\wk.cell? d=some y
def Xv{F:Prop}{B0 o:Nat}{X:Nat->Nat->ByteArray}{M:Nat->Nat->RK k}{v:Value}(hn:n<=60)
  (hA:Mt (some o) w v n (λ_=>n) X) (hX:MatIs e n X M) (hs:SumB w o k.1 e) (he:Er F e) (hF:F->FitM n M) (ht:TabB B0 w) (hB:B0<=o) :
  Calls prog 155 #[.pointer (some (Ad o 0)),v] w (PowE F o n e M w):=by
 obtain⟨a,j9,b,B,A,C,BB,O,rfl,ha,hc,hm,hb,b0⟩:=hA.open;unfold maxLen at hm;have b8:=hs.lt;have HS:=qh hs;clear hs;have HX:=qh hX;clear hX;replace he:=qh he;replace hF:=qh hF;have d7:=qh ht;clear ht;replace ha:=qh ha;have HB:=qh hb;clear hb;have HR:=qh b0;clear b0 hA;have i4:=run_make_row' (P:=prog) 75 79 (.slice none 0 0) 24 underlying75 Ff rfl .i64 .i64 n (by omega) (by omega)
 go_enter func155,ntmps155
 go_wp2_with fail
 change Code.wp _ _ _ _ (PW w o n);clear i4;have d4:=qh<|RO w o n;have d3:=qh<|RN w o n X;have d2:=qh<|RL w o n;generalize PW w o n=wp at *;obtain⟨H,G⟩:=exq<|w.heap.size+1;obtain⟨g,m⟩:=exq<|w.heap.size;rw[<-G,<-m];rw[<-m]at b8 G;have a5:=qh (show wp.heap[H]?=some (.cells #[.pointer (some (Ad o 0)),.slice (some (Ad g 0)) n n] 184 (0,0)) from by rw[G,m];exact d4.o);have a4:=qh (show OM wp (λb=>b=H) g 9 79 g n (λ_=>.slice none 0 0) (λl=>if l<0 then n else 0) X from by rw[G,m];exact d3.o)
 have a3:=qh (show Below g w wp from by rw[m];exact d2.o);have b1:=qh (show 0<n->b<g/\b≠o from λh=>by rw[m];exact⟨(HB.o h).1,by have:=(HB.o h).2;simpa using this⟩);have d5:=qh (show ∀i,i<n->w.cell? (Ad b (B+i))=some (.slice (A i) n (C i))/\n<=C i/\C i<=maxLen/\(0<n->A i=some (Ad (BB i) (O i)))/\(0<n->BB i<g)/\∀j,j<n->w.cell? (Ad (BB i) (O i+j))=some (.string (X i j)) from λi hi=>by
  obtain⟨k1,k2,k3,k4,k5,_,k7⟩:=HR.o i hi;exact⟨k1,k2,k3,k4,λh=>by rw[m];exact(k5 h).1,k7⟩)
 replace m:=qh m;replace G:=qh G;clear d4 d3 d2 HB HR
 go_loopw [16] (λi wr=>∃(q:Nat) (R2:Nat->Value),q<=n/\i=.int .i64 (q:Int)/\wr.heap[H]?=some (.cells #[.pointer (some (Ad o 0)),.slice (some (Ad g 0)) n n] 184 (0,0))/\
  OM wr (λb=>b=H) g 9 79 g n R2 (λl=>if l<q then n else 0) X/\
  (∀l,q<=l->R2 l=.slice none 0 0)/\Below g w wr) (λi _=>n-(intOf i).toNat)
 case atStart=>exact⟨0,_,Nat.zero_le _,rfl,a5.o,a4.o,λ_ _=>rfl,a3.o⟩
 obtain⟨q,R2,hq,rfl,I,g0,a9,u⟩:=hrel;clear a5 a4 a3;replace I:=qh I;have L:=qh g0;clear g0;have b2:=qh a9;clear a9;replace u:=qh u;by_cases s:q<n
 ·have l3:(q:Int)<(n:Int):=by omega
  have j8:(0:Int)<=(q:Int):=by omega
  obtain rfl:=ha.o (by omega);obtain⟨e9,h5⟩:=b1.o (by omega);obtain⟨k1,k2,k3,k4,k5,k7⟩:=d5.o q s;have g5:=k4 (by omega);have b9:=k5 (by omega);rw[g5]at k1;have c0:=(u.o.cell (p:=(Ad b (B+q))) e9).trans k1;have c8:=qh<|λj (hj:j<n)=>(u.o.cell (p:=(Ad (BB q) (O q+j))) b9).trans (k7 j hj);have t1:wr.cell? (Ad H 1)=some (.slice (some (Ad g 0)) n n):=by have:=I.o;simp[World.cell?,this]
  have o0:=L.o.cell s;rw[b2.o q nlr]at o0;unfold maxLen at k3;have b6:=CY wr none;have j1:=L.o.lt;have g8:g<=wr.heap.size:=by rw[m.o];exact u.o.size
  have k9:(C q:Int)<=9223372036854775807:=by omega
  clear k1 k4 k5 k7 g5;have k0:BB q<g:=b9;clear b9 e9 h5;obtain⟨i0,i3,i8,i9,j0⟩:=info_parts FX;have g9:=qh<|show ∀j,j<n->wr.drew.cell? (Ad (BB q) (O q+j))=some (.string (X q j)) from c8.o;clear c8
  go_wp2_with fail
  have d:S4 (Ad H 1) (Ad g q) (Ad b (B+q)) (Ad b (B+q)) (.slice (some (Ad g 0)) n n) (.slice none 0 0) (.slice (some (Ad (BB q) (O q))) n (C q)) (.slice (some (Ad (BB q) (O q))) n (C q)) wr.drew:=⟨t1,o0,c0,c0⟩;refine Au (S4 (Ad H 1) (Ad g q) (Ad b (B+q)) (Ad b (B+q)) (.slice (some (Ad g 0)) n n) (.slice none 0 0) (.slice (some (Ad (BB q) (O q))) n (C q)) (.slice (some (Ad (BB q) (O q))) n (C q))) 18 (by kernel_rfl) ?_;refine Aa.tm 0 d ?_;refine Aa.tm 1 d ?_;refine Aa.tm 2 d ?_;refine Aa.tm 3 d ?_;refine Aa.tm 4 d ?_;refine Aa.tm 5 d ?_;refine Aa.tm 6 d ?_;refine Aa.tm 7 d ?_;refine Aa.tm 8 d ?_;refine Aa.tm 9 d ?_;refine Aa.tm 10 d ?_;refine Aa.tm 11 d ?_;refine Aa.tm 12 d ?_;refine Aa.tm 13 d ?_;refine Aa.tm 14 d ?_;refine Aa.tm 15 d ?_
  try simp only[Act.put,tryL]
  refine Aa.on 16 λK J=>?_;refine wp_append_lies _ (.tmp 30) (.tmp 34) 79 rfl g 9 i0 (.string ⟨#[]⟩) 1 16 underlying79 i3 i8 i9 j0 rfl (by omega) (.slice none 0 0) 0 [] (by simp[Act.eval]) (World.ownsRow_nil _ _ _ _) (Ad (BB q) (O q)) n (C q) (strs n (X q)) (by simp[Act.eval]) (by rw[Fz,Nat.mul_one])
     (Zk g9.o) (Qv _ _) (by omega) (by unfold maxLen;omega) (by omega) g8 wr.heap.size rfl ?_
  intro go j3 wa g1 E h4 j7;have T:=AR b6 E;have l2:=(T.frozen_far (Ad g q) j1 (by simp)).trans (L.o.frozen q);have h7:=T.cell o0 (by simp);have e1:S4 (Ad H 1) (Ad g q) (Ad b (B+q)) (Ad b (B+q)) (.slice (some (Ad g 0)) n n) (.slice none 0 0) (.slice (some (Ad (BB q) (O q))) n (C q)) (.slice (some (Ad (BB q) (O q))) n (C q)) wa :=
   ⟨T.cell t1 (by simp),h7,T.cell c0 (by simp),T.cell c0 (by simp)⟩
  refine J.out _ _ (.inr e1) ?_;clear J K
  try simp only[Act.put,tryL]
  refine Aa.tm 17 e1 ?_
  try simp only[Act.put,tryL]
  refine Aa.on 18 λK J=>?_;go_simp;refine J.out _ _ (.inl rfl) (Aa.dn ?_);clear J K;go_wp2;go_roundw
  case rel =>
   obtain⟨R3,h1,h2⟩:=MJ L.o s b2.o g1 E h4;exact⟨q+1,R3,by omega,by go_num,ZG I.o E (by simp[Value.ownBlock]) (by show H≠g;have:=G.o;omega) _,h1,h2,((u.o.drew).grown E (by show g<=wr.heap.size;exact g8) (by simp[Value.ownBlock])).setCell nlr _⟩
  simp[intOf];omega
 have i5:q=n:=by omega
 subst i5;have f9:OM wr (λb=>b=H) g 9 79 g q R2 (λ_=>q) X:=L.o.congrL λl hl=>by rw[ifp hl]
 have i2:¬((q:Int)<(q:Int)):=by omega
 have e6:Tb wr k.1 g (H) o g q e R2 X:=⟨I.o,HS.o.kept (m.o ▸ u.o),f9,b8,by have:=G.o;omega⟩;have a7:TabB B0 wr:=d7.o.kept (z:=none) (Ab (m.o ▸ u.o) _) (by simp) (by have:=m.o;omega);have e0:Gr g (some o) w wr:=Gr.of (Ab (m.o ▸ u.o) _) (by rw[m.o];exact nlr);clear L b2 f9;have d6:=qh e6;clear e6 HS;have R:=qh a7;clear a7 d7;have d0:=qh e0;clear e0;have D:∀i,i<q->wr.cell? (Ad b (B+i))=some (.slice (A i) q (C i)):=λi hi=>(u.o.cell (p:=(Ad b (B+i))) (b1.o (by omega)).1).trans (d5.o i hi).1;replace D:=qh D
 go_wp2_with fail
 refine(Up hn ha.o b1.o D.o d6.o HX.o he.o (λf=>(hF.o f).steps) R.o hB).mono ?_;rintro r w2⟨e2,Y,rfl,e7,e8,d9,b7,b5⟩;have a8:TabB B0 w2:=R.o.gr b5 (by intro q hq;cases hq;exact hB) (by omega);have b3:=qh e7;clear e7 d6;have d8:=qh<|Diag.start e8;clear e8;have c9:=qh d9;clear d9;replace b7:=qh b7;have d1:=qh<|d0.o.trans b5;clear b5 d0;have a6:=qh a8;clear a8 R;have t1:=b3.o.c1
 go_wp2_with fail
 clear t1
 go_loopw [47] (λi wr=>∃(c W:Nat) (Z:Nat->Nat->ByteArray),c<=q/\i=.int .i64 (c:Int)/\Tb wr k.1 g H o g q W R2 Z/\Diag W q c Z (CSR.elims M q)/\Er F W/\(W=0->e2=0)/\TabB B0 wr/\Gr g (some o) w wr)
  (λi _=>q-(intOf i).toNat)
 case atStart=>exact⟨0,e2,Y,Nat.zero_le _,rfl,b3.o,d8.o,c9.o,λh=>h,a6.o,d1.o⟩
 obtain⟨c,W,Z,l0,rfl,Q,hX,hE,hm,a2,hG⟩:=hrel;clear b3 d8 c9 a6 d1;replace Q:=qh Q;have b4:=qh hX;clear hX;replace hE:=qh hE;have HM:=qh hm;clear hm;replace a2:=qh a2;replace hG:=qh hG;by_cases s:c<q
 ·have l1:(c:Int)<(q:Int):=by omega
  have j6:(0:Int)<=(c:Int):=by omega
  obtain⟨S,cc,a1,f1,f2,j4,j5,k6,h6,f5,f3⟩:=Q.o.om.form s (by omega);unfold maxLen at h6;have r0:=Q.o.om.cell s;rw[a1]at r0;have r1:=f3 c s;have rf:=f5 c;have t1:=Q.o.c1;have s0:=Q.o.sum.c0;replace a1:=qh a1;clear f5 f3;have b6:=CY wr (some o);have d:S4 (Ad H 1) (Ad g c) (Ad S c) (Ad o 0) (.slice (some (Ad g 0)) q q) (.slice (some (Ad S 0)) q cc) (.string (Z c c)) (.int .i64 k.1) wr.drew:=⟨t1,r0,r1,s0⟩;have h3:=G.o;have g7:some H≠some o:=by simp;omega
  have g6:some g≠some o:=by simp;omega
  have c7:some S≠some o:=by simp;omega
  clear h3
  go_wp2_with fail
  refine Au (S4 (Ad H 1) (Ad g c) (Ad S c) (Ad o 0) (.slice (some (Ad g 0)) q q) (.slice (some (Ad S 0)) q cc) (.string (Z c c)) (.int .i64 k.1)) 26 (by kernel_rfl) ?_;refine Aa.tm 0 d ?_;refine Aa.tm 1 d ?_;refine Aa.tm 2 d ?_;refine Aa.tm 3 d ?_;refine Aa.tm 4 d ?_;refine Aa.tm 5 d ?_;refine Aa.tm 6 d ?_;refine Aa.tm 7 d ?_;refine Aa.tm 8 d ?_;refine Aa.tm 9 d ?_;refine Aa.tm 10 d ?_;refine Aa.tm 11 d ?_;refine Aa.tm 12 d ?_;refine Aa.tm 13 d ?_;refine Aa.tm 14 d ?_;refine Aa.tm 15 d ?_;refine Aa.tm 16 d ?_;refine Aa.tm 17 d ?_;refine Aa.tm 18 d ?_;refine Aa.tm 19 d ?_;refine Aa.tm 20 d ?_;refine Aa.tm 21 d ?_;refine Aa.tm 22 d ?_
  try simp only[Act.put,tryL]
  refine Aa.on 23 λK J=>?_;go_simp;refine(Iu k.1 _).mono ?_;rintro r w3⟨rfl,f0⟩;have U:=AR b6 (Ab f0 (some o));have g2:SumB w3 o k.1 W:=Q.o.sum.drew.kept f0;have h0:S4 (Ad H 1) (Ad g c) (Ad S c) (Ad o 0) (.slice (some (Ad g 0)) q q) (.slice (some (Ad S 0)) q cc) (.string (Z c c)) (.int .i64 k.1) w3:=⟨U.cell t1 g7,U.cell r0 g6,U.cell r1 c7,g2.c0⟩;refine J.out _ _ (.inr h0) ?_;clear J K
  try simp only[Act.put,tryL]
  refine Aa.on 24 λK J=>?_;go_simp;have i7:Is k W (Z c c) (CSR.elims M q c c):=by have:=b4.o c c s s;rwa [ifn (by omega)]at this
  refine(ML i7 (Is.one k W) hE.o (λf=>(hF.o f).last c s) (a2.o.kept U (by intro q hq;cases hq;exact hB) (by have:=Q.o.sum.lt;omega)).tab g2).mono ?_;rintro r w4⟨u4,e4,rfl,i6,h8,f8,g3,h9⟩;have N:=AR U h9;have l4:=(N.frozen_far (Ad S c) f2 c7).trans rf;have j2:=N.cell r1 c7;have e5:S4 (Ad H 1) (Ad g c) (Ad S c) (Ad o 0) (.slice (some (Ad g 0)) q q) (.slice (some (Ad S 0)) q cc) (.string (Z c c)) (.int .i64 k.1) w4:=⟨N.cell t1 g7,N.cell r0 g6,j2,g3.c0⟩;refine J.out _ _ (.inr e5) ?_;clear J K
  try simp only[Act.put,tryL]
  refine Aa.tm 25 e5 ?_
  try simp only[Act.put,tryL]
  refine Aa.on 26 λK J=>?_;go_simp;refine J.out _ _ (.inl rfl) (Aa.dn ?_);clear J K;go_wp2;go_roundw
  case rel =>
   have g4:g<=wr.heap.size:=by rw[m.o];exact hG.o.size
   have f7:=((Gr.refl g (some o) wr).more N g4 (λ_ e=>.inl e)).set (p:=(Ad S c)) (.inr f1) (.string u4);exact⟨c+1,e4,_,by omega,by go_num,(Q.o.kept N g3).stored s s a1.o u4,b4.o.next f8 i6,h8,λh=>HM.o (f8 h),
    a2.o.gr f7 (by intro q hq;cases hq;exact hB) (by omega),hG.o.trans f7⟩
  simp[intOf];omega
 have f4:c=q:=by omega
 subst f4;have i2:¬((c:Int)<(c:Int)):=by omega
 have t1:=Q.o.c1;go_wp2;go_ret;exact⟨_,W,Z,rfl,Q.o.om.mt (by unfold maxLen;omega) (by intro q hq;cases hq;exact .inl b8),b4.o.done,hE.o,λh=>b7.o (HM.o h),Q.o.sum,Gr.gb (by have h:=hG.o;rw[m.o]at h;exact h)⟩
end
section
open Go.RowKit Go.Deep
variable{D:MD}{star sv:Value}{d e:Nat}
def Scl(w:World)(cb:Nat)(D:MD)(sv star:Value)(e:Nat):Prop:=w.heap[cb]?=some (.cells #[.int .i64 D.kind,.int .i64 D.start,.string D.lead,sv,star,.int .i64 (e:Int)] 105 (0,0))
namespace Scl
variable{w w':World}{cb:Nat}{D:MD}{sv star:Value}{e:Nat}
theorem lt(h:Scl w cb D sv star e):cb<w.heap.size:=(Array.getElem?_eq_some_iff.1 h).1
theorem c0(h:Scl w cb D sv star e):w.cell? (Ad cb 0)=some (.int .i64 D.kind):=by unfold Scl at h;simp[World.cell?,h]
theorem c1(h:Scl w cb D sv star e):w.cell? (Ad cb 1)=some (.int .i64 D.start):=by unfold Scl at h;simp[World.cell?,h]
theorem c2(h:Scl w cb D sv star e):w.cell? (Ad cb 2)=some (.string D.lead):=by unfold Scl at h;simp[World.cell?,h]
theorem c3(h:Scl w cb D sv star e):w.cell? (Ad cb 3)=some sv:=by unfold Scl at h;simp[World.cell?,h]
theorem c4(h:Scl w cb D sv star e):w.cell? (Ad cb 4)=some star:=by unfold Scl at h;simp[World.cell?,h]
theorem c5(h:Scl w cb D sv star e):w.cell? (Ad cb 5)=some (.int .i64 (e:Int)):=by unfold Scl at h;simp[World.cell?,h]
theorem fz(h:Scl w cb D sv star e)(j:Nat):w.frozen? (Ad cb j)=false:=by unfold Scl at h;simp[World.frozen?,h]
theorem setE(h:Scl w cb D sv star e)(e':Nat):Scl (w.setCell (Ad cb 5) (.int .i64 (e':Int))) cb D sv star e':=by
 unfold Scl at h ⊢;simp[World.setCell,Array.getElem?_modify,h]
theorem kept{C:Nat->Prop}(h:Scl w cb D sv star e)(hf:Fr C w w')(c:¬C cb):Scl w' cb D sv star e:=by unfold Scl;rw[hf.block cb h.lt c];exact h
end Scl
theorem Ec{a:ByteArray}(h:(a.toList==[])=true):a=⟨#[]⟩:=toList_eq (b:=⟨#[]⟩) (by rw[Lib.toList_data ⟨#[]⟩];exact h)
theorem IV(a b:ByteArray)(w:World)(k:Scl w d D sv star e)(z:smS a)(hb:smS b)(s:Tab w):
  Calls prog 123 #[.pointer (some (Ad d 0)),.string a,.string b] w (λr w'=>r=.returned (.string (AN D.kind a b e).1)/\Scl w' d D sv star (AN D.kind a b e).2/\Fr (λq=>q=d) w w'):=by
 have E:=k.c0;have F:=k.c5;replace k:=qh k;cases m:(a.toList==[]);have g:a≠⟨#[]⟩:=λe=>by rw[e]at m;simp at m
 by_cases p:e=0
 ·subst p;have l:AN D.kind a b 0=Am D.kind a b:=by unfold AN;rw[ifn (by intro h;rcases h with h|h;exact g h;exact h rfl)]
  rw[l];have o:=Qc D.kind a b w z hb s;replace o:=qh o;clear s
  go_enter func123,ntmps123
  go_wp2_with fail
  refine o.o.mono ?_;rintro r u⟨rfl,i⟩;have j:Fr (λq=>q=d) w u:=Fr.of_below i;have c:Scl u d D sv star 0:=by unfold Scl;rw[i.block d k.o.lt];exact k.o
  have C:=c.fz 5;have B:=c.c5;replace c:=qh c;clear i;replace j:=qh j;go_wp2;go_ret;exact⟨rfl,c.o.setE _,j.o.set (.inl rfl) _⟩
 have l:AN D.kind a b e=(b,e):=by unfold AN;rw[ifp (.inr p)]
 have A:¬(e:Int)=0:=by omega
 rotate_left
 have g:a=⟨#[]⟩:=Ec m;have l:AN D.kind a b e=(b,e):=by unfold AN;rw[ifp (.inl g)]
 all_goals
  rw[l]
  go_enter func123,ntmps123
  go_wp2;go_ret;exact⟨rfl,k.o,Fr.refl _ _⟩
theorem LG(a b:ByteArray)(w:World)(i:Scl w d D sv star e)(p:smS a)(hb:smS b)(m:Tab w):
  Calls prog 125 #[.pointer (some (Ad d 0)),.string a,.string b] w (λr w'=>r=.returned (.string (AQ D.kind a b e).1)/\Scl w' d D sv star (AQ D.kind a b e).2/\Fr (λq=>q=d) w w'):=by
 have A:=i.c0;have B:=i.c5;replace i:=qh i;by_cases l:e=0
 ·subst l;have k:AQ D.kind a b 0=Al D.kind a b:=by unfold AQ;rw[ifn (by simp)]
  rw[k];have j:=Ld D.kind a b w p hb m;replace j:=qh j;clear m
  go_enter func125,ntmps125
  go_wp2_with fail
  refine j.o.mono ?_;rintro r o⟨rfl,g⟩;have h:Fr (λq=>q=d) w o:=Fr.of_below g;have c:Scl o d D sv star 0:=by unfold Scl;rw[g.block d i.o.lt];exact i.o
  have z:=c.fz 5;have u:=c.c5;replace c:=qh c;clear g;replace h:=qh h;go_wp2;go_ret;exact⟨rfl,c.o.setE _,h.o.set (.inl rfl) _⟩
 have k:AQ D.kind a b e=(a,e):=by unfold AQ;rw[ifp l]
 have s:¬(e:Int)=0:=by omega
 rw[k]
 go_enter func125,ntmps125
 go_wp2;go_ret;exact⟨rfl,i.o,Fr.refl _ _⟩
theorem NF:(prog.info? 9).map (λi=>(i.zero,i.size,i.bytes))=some (some (.string ⟨#[]⟩),1,16):=by kernel_rfl
theorem IR{c:Nat}{a:Option Addr}{cap:Nat}(w:World)(g:Scl w c D (.slice a D.n cap) star e)(h:1<=D.n)(hn:D.n<=3000):
  Calls prog 82 #[.pointer (some (Ad c 0))] w (λr w'=>r=.returned (.slice (some (Ad w.heap.size 0)) D.n D.n)/\w'.rowIs w.heap.size 9 D.n (λq=>.string (Ax q))/\Fr (λ_=>False) w w'/\w'.heap.size=w.heap.size+1):=by
 have i:=g.c3;have d:=run_make_row' (P:=prog) 102 9 (.string ⟨#[]⟩) 16 underlying102 NF rfl .i64 .i64 D.n (by omega) (by omega)
 go_enter func82,ntmps82
 go_wp2;go_ret;exact⟨rfl,World.rowIs_made w (.string ⟨#[]⟩) D.n 9,Fr.alloc _ _,by simp⟩
end
section
open Go.RowKit Go.Deep
variable{D:MD}{star:Value}{e:Nat}
theorem z0j{m:Nat}{a:Option Addr}{cap:Nat}(w:World)(z:Scl w m D (.slice a D.n cap) star e)(L:1<=D.n)(hn:D.n<=3000)(C:0<=D.start)(i:D.start<(D.n:Int)):
  Calls prog 80 #[.pointer (some (Ad m 0))] w (λr w'=>r=.returned (.slice (some (Ad w.heap.size 0)) D.n D.n)/\w'.rowIs w.heap.size 9 D.n (λq=>.string (Fx D q))/\Fr (λ_=>False) w w'):=by
 obtain⟨st,k⟩:∃st:Nat,D.start=(st:Int):=⟨D.start.toNat,by omega⟩;have s:st<D.n:=by omega
 have I:(st:Int)<(D.n:Int):=by omega
 have E:(0:Int)<=(st:Int):=by omega
 have A:=qh<|IR w z L hn;replace z:=qh z;have l:Fx D=λq=>if q=st then D.lead else ⟨#[]⟩:=by funext q;unfold Fx;rw[k,Int.toNat_natCast]
 replace l:=qh l;replace k:=qh k;clear C i
 go_enter func80,ntmps80
 go_wp2_with fail
 refine A.o.mono ?_;rintro r G⟨rfl,d,hf,F⟩;have i:=z.o.kept hf (λh=>h);obtain⟨g,o⟩:=exq<|w.heap.size;rw[<-o]at d;rw[<-o];have B:w.heap.size<=g:=by omega
 have J:=i.c1;rw[k.o]at J;have N:=i.c2;have gl:=d.cell s;have O:=d.frozen st;replace d:=qh d;replace hf:=qh hf;clear i F;replace o:=qh o
 go_wp2_with fail
 have c:G.cell? (Ad m 1)=some (.int .i64 (st:Int))/\G.cell? (Ad m 2)=some (.string D.lead):=⟨J,N⟩;refine Au (λu=>u.cell? (Ad m 1)=some (.int .i64 (st:Int))/\u.cell? (Ad m 2)=some (.string D.lead)) 12 (by kernel_rfl) ?_;refine Aa.tm 0 c ?_;refine Aa.tm 1 c ?_;refine Aa.tm 2 c ?_;refine Aa.tm 3 c ?_;refine Aa.tm 4 c ?_;refine Aa.tm 5 c ?_;refine Aa.tm 6 c ?_;refine Aa.tm 7 c ?_;refine Aa.tm 8 c ?_;refine Aa.tm 9 c ?_;refine Aa.tm 10 c ?_;refine Aa.tm 11 c ?_
 try simp only[Act.put,tryL]
 refine Aa.on 12 λK H=>?_;go_simp;refine H.out _ _ (.inl rfl) (Aa.dn ?_);clear H K;go_wp2;go_ret;refine⟨Eq.trans (b:=Ending.returned (.slice (some (Ad g 0)) D.n D.n)) rfl (by rw[o.o]),?_,(hf.o.set (p:=(Ad g st)) (.inr B) _).drew⟩;rw[l.o,<-o.o];exact(show (G.setCell (Ad g st) (.string D.lead)).rowIs g 9 D.n _ from d.o.set st _).congr (λj _=>by
  show _=Value.string (if j=st then D.lead else ⟨#[]⟩)
  by_cases e:j=st
  ·rw[ifp e,ifp e]
  rw[ifn e,ifn e];rfl)
def TstA(nf:FuncId)(cap:Array Value)(sel:Int->Int->Bool)(P:World->Prop):Prop :=
 (∀args w,(callFunc nf args).run prog w=.ok (.enter nf args) w)/\∀w,P w->∀(i o:Int) (s:ByteArray) (t:Int),Calls prog nf (#[.agg #[.int .i64 i,.int .i64 o,.string s,.int .i64 t]]++cap) w (λr w'=>r=.returned (.bool (sel i o))/\Below w.heap.size w w')
def StpE(cb lb:Nat)(D:MD)(sv star:Value)(s:WS)(w:World)(r:Ending)(w':World):Prop :=
 r=.returned (.tuple #[])/\w'.rowIs lb 9 D.n (λj=>.string (s.1 j))/\Scl w' cb D sv star s.2/\Fr (λq=>q=cb\/q=lb) w w'
theorem IC{u o vb nf:Nat}{cap:Array Value}{sv:Value}{l v:Nat->ByteArray}{sel:Int->Int->Bool}{P:World->Prop}(w0 w:World)(hv:VM D)(hD:StS none w0 sv D)(z:Below w0.heap.size w0 w)(ht:Tab w0)
  (hs:Scl w u D sv star e) (hl:w.rowIs o 9 D.n (λj=>.string (l j))) (e4:w.rowIs vb 9 D.n (λj=>.string (v j))) (a3:w0.heap.size<=u) (a5:w0.heap.size<=o) (S:u≠o) (g3:vb≠o) (g2:vb≠u)
  (f8:∀j,smS (l j)) (a7:∀j,smS (v j)) (f5:∀i k,smS (D.aw i k)) (hP:P w) (f2:∀wa wb,P wa->Fr (λq=>q=u\/q=o) wa wb->P wb) (h9:TstA nf cap sel P) :
  Calls prog 84 #[.pointer (some (Ad u 0)),.slice (some (Ad o 0)) D.n D.n,.slice (some (Ad vb 0)) D.n D.n,.func (.func nf) #[] cap] w (StpE u o D sv star (Br D sel v D.n (l,e)) w):=by
 obtain⟨a,cp,b,d5,A,C,BB,O,rfl,ha,hc,hm,hb,X⟩:=hD.open;unfold maxLen at hm;obtain⟨j1,g1⟩:=h9;obtain⟨n,hn⟩:=exq<|D.n;have j3:n<=3000:=by rw[hn];exact hv.n2
 have j2:1<=n:=by rw[hn];exact hv.n1
 rw[<-hn]at ha hc hb X hl e4 hs ⊢;replace hn:=qh hn;replace hv:=qh hv;replace ha:=qh ha;replace hb:=qh hb;replace X:=qh X;clear hD;replace g1:=qh g1;replace ht:=qh ht;replace hP:=qh hP;replace f2:=qh f2;replace z:=qh z;have HS:=qh hs;clear hs;have HL:=qh hl;clear hl;replace e4:=qh e4;replace f8:=qh f8;replace a7:=qh a7;replace f5:=qh f5;replace S:=qh S;replace g3:=qh g3;replace g2:=qh g2;replace a3:=qh a3;replace a5:=qh a5;obtain rfl:=ha.o (by omega)
 go_enter func84,ntmps84
 go_wp2_with fail
 go_loopw [14] (λi wr=>∃q:Nat,q<=n/\i=.int .i64 (q:Int)/\wr.rowIs o 9 n (λj=>.string ((Br D sel v q (l,e)).1 j))/\Scl wr u D (.slice (some (Ad b d5)) n cp) star (Br D sel v q (l,e)).2/\Fr (λq=>q=u\/q=o) w wr) (λi _=>n-(intOf i).toNat)
 case atStart=>exact⟨0,Nat.zero_le _,rfl,HL.o,HS.o,Fr.refl _ _⟩
 obtain⟨q,hq,rfl,h6,h7,h4⟩:=hrel;clear HL HS;have a1:=qh h6;clear h6;have R:=qh h7;clear h7;have Z:=qh h4;clear h4;by_cases h5:q<n
 ·have j4:(q:Int)<(n:Int):=by omega
  have i7:(0:Int)<=(q:Int):=by omega
  have cv:=Z.o.cell (e4.o.cell h5) (p:=(Ad vb q)) (by
   rintro(h|h)
   ·exact g2.o h
   exact g3.o h)
  have g5:=qh (z.o.trans (Z.o.below z.o.size (λk hk=>by rcases hk with rfl|rfl;exact a3.o;exact a5.o)))
  have i2:=(hb.o (by omega)).1;obtain⟨k1,k2,k3,k4,k5,k6,k7⟩:=X.o q h5;obtain⟨aq,g9⟩:=exq<|A q;rw[<-g9]at k2 k5;clear g9;have c1:=(g5.o.cell (p:=(Ad b (d5+q*2+1))) i2).trans k2;have m3:=R.o.c3;clear k1 k2;unfold maxLen at k4;have i6:D.na q<=30000:=by have h1:=Nat.le_trans (BA D (show q+1<=D.n by have:=hn.o;omega)) hv.o.arcs;have h2:Ac D (q+1)=Ac D q+D.na q:=rfl;omega
  replace k7:=qh k7;replace k5:=qh k5;replace k6:=qh k6;obtain⟨vq,a6⟩:=exq<|v q;rw[<-a6]at cv;cases hE:(vq.toList==[])
  ·have b8:v q≠⟨#[]⟩:=λe=>by rw[a6,e]at hE;simp at hE
   have c9:Br D sel v (q+1) (l,e)=Cu D sel v q (D.na q) (Br D sel v q (l,e)):=by
    show rowC D sel v q _=_;unfold rowC;rw[ifn b8]
   have a2:=qh c9;clear c9 b8;have f0:=qh a6;clear a6;obtain⟨s0,f9⟩:=exq<|Br D sel v q (l,e);have d0:∀j,smS (s0.1 j):=by rw[f9];exact EJ a7.o q f8.o
   rw[<-f9]at a1 R a2;replace d0:=qh d0;clear f9
   go_wp2_with fail
   clear cv c1 m3
   go_loopw [31] (λi wr=>∃d:Nat,d<=D.na q/\i=.int .i64 (d:Int)/\wr.rowIs o 9 n (λj=>.string ((Cu D sel v q d s0).1 j))/\Scl wr u D (.slice (some (Ad b d5)) n cp) star (Cu D sel v q d s0).2/\Fr (λq=>q=u\/q=o) w wr) (λi _=>D.na q-(intOf i).toNat)
   case atStart=>exact⟨0,Nat.zero_le _,rfl,a1.o,R.o,Z.o⟩
   obtain⟨d,hd,rfl,L,N,e7⟩:=hrel;clear a1 R Z g5;have E:=qh L;clear L;have F:=qh N;clear N;have I:=qh e7;clear e7;by_cases h0:d<D.na q
   ·have j0:(d:Int)<(D.na q:Int):=by omega
    have i5:(0:Int)<=(d:Int):=by omega
    have H:=qh (z.o.trans (I.o.below z.o.size (λk hk=>by rcases hk with rfl|rfl;exact a3.o;exact a5.o)))
    have d9:=(k6.o (by omega)).1;obtain⟨t0,t1,t2,t3⟩:=k7.o d h0;obtain rfl:=k5.o (by omega);have c0:=(H.o.cell (p:=(Ad (BB q) (O q+d*4))) d9).trans t0;have c1:=(H.o.cell (p:=(Ad (BB q) (O q+d*4+1))) d9).trans t1;have c2:=(H.o.cell (p:=(Ad (BB q) (O q+d*4+2))) d9).trans t2;have c3:=(H.o.cell (p:=(Ad (BB q) (O q+d*4+3))) d9).trans t3;clear t0 t1 t2 t3;have f4:=hv.o.arc q d (by have:=hn.o;omega) h0;obtain⟨g,e3⟩:∃g:Nat,D.ato q d=(g:Int):=⟨(D.ato q d).toNat,by have:=f4.t0;omega⟩;have h8:g<n:=by have:=f4.t1;have:=hn.o;omega
    rw[e3]at c3;replace e3:=qh e3;clear f4;obtain⟨Q,d8⟩:=exq<|wr.heap.size;obtain⟨wa,d4⟩:=exq<|wr.alloc (.cells #[.int .i64 (D.ain q d),.int .i64 (D.aout q d),.string (D.aw q d),.int .i64 (g:Int)] 59);have f7:Fr (λq=>q=u\/q=o) wr wa:=by rw[d4];exact Fr.alloc _ _
    have e6:wa.heap[Q]?=some (.cells #[.int .i64 (D.ain q d),.int .i64 (D.aout q d),.string (D.aw q d),.int .i64 (g:Int)] 59 (0,0)):=by rw[d4,d8];exact han wr _
    have b7:=g1.o wa (f2.o _ _ hP.o (I.o.trans f7)) (D.ain q d) (D.aout q d) (D.aw q d) (g:Int);have i9:Q≠o:=by have:=E.o.lt;omega
    have b3:Q≠u:=by have:=F.o.lt;omega
    have HC:=qh b7;clear b7;have d6:=qh f7;clear f7;have a8:=qh e6;clear e6
    go_wp2_with fail
    rw[<-d4,<-d8];clear c0 c1 c2 c3;replace d8:=qh d8;have f1:=qh d4;clear d4;refine HC.o.mono ?_;rintro r w1⟨rfl,b4⟩;have h3:Fr (λq=>q=u\/q=o) w w1:=(I.o.trans d6.o).trans (Fr.of_below b4);have b5:=(b4.block Q (lbk a8.o)).trans a8.o;have e9:Scl w1 u D (.slice (some (Ad b d5)) n cp) star (Cu D sel v q d s0).2:=by
     unfold Scl;rw[b4.block u (by have:=F.o.lt;have:=d6.o.size;omega),f1.o,blk_alloc_lt _ _ _ F.o.lt];exact F.o
    have e8:w1.rowIs o 9 n (λj=>.string ((Cu D sel v q d s0).1 j)):=E.o.of_block ((b4.block o (by have:=E.o.lt;have:=d6.o.size;omega)).trans (by rw[f1.o,blk_alloc_lt _ _ _ E.o.lt]));have a9:=qh h3;clear h3 b4 d6 a8 HC F E I H f1;have m:=qh b5;clear b5;have J:=qh e9;clear e9;have B:=qh e8;clear e8;have Y:∀j,smS ((Cu D sel v q d s0).1 j):=Jb (a7.o q) d d0.o;replace Y:=qh Y;cases e2:sel (D.ain q d) (D.aout q d)
    ·have c7:Cu D sel v q (d+1) s0=Cu D sel v q d s0:=by show arcC D sel v q d _=_;unfold arcC;rw[ifn (by rw[e2];simp)]
     have b0:=qh c7;clear c7 e2;go_wp2;go_roundw
     case rel=>exact⟨d+1,by omega,by go_num,by rw[b0.o];exact B.o,by rw[b0.o];exact J.o,a9.o⟩
     simp[intOf];omega
    obtain⟨s1,g0⟩:=exq<|Cu D sel v q d s0;obtain⟨tp,d1⟩:=exq<|AQ D.kind vq (D.aw q d) s1.2;obtain⟨zp,e5⟩:=exq<|AN D.kind (s1.1 g) tp.1 tp.2;have c7:Cu D sel v q (d+1) s0=(updS s1.1 g zp.1,zp.2):=by
     show arcC D sel v q d _=_;unfold arcC;rw[ifp e2,<-g0,e3.o,Int.toNat_natCast,<-f0.o,<-d1,<-e5]
    rw[<-g0]at J B Y;have b0:=qh c7;clear c7 e2 g0;have d2:smS tp.1:=by rw[d1];exact FB (by rw[f0.o];exact a7.o q)
    have d3:smS vq:=by rw[f0.o];exact a7.o q
    replace d2:=qh d2;replace d3:=qh d3;replace d1:=qh d1;replace e5:=qh e5;have i8:(g:Int)<(n:Int):=by omega
    have i4:(0:Int)<=(g:Int):=by omega
    obtain⟨s,G⟩:=exq<|w1.drew;have a9:Hd (Fr (λq=>q=u\/q=o) w s):=qh (by rw[G];exact a9.o.drew);have m:Hd (s.heap[Q]?=some (.cells #[.int .i64 (D.ain q d),.int .i64 (D.aout q d),.string (D.aw q d),.int .i64 (g:Int)] 59 (0,0))):=qh (by rw[G];exact m.o);have J:Hd (Scl s u D (.slice (some (Ad b d5)) n cp) star s1.2):=qh (by rw[G];exact J.o);have B:Hd (s.rowIs o 9 n (λj=>.string (s1.1 j))):=qh (by rw[G];exact B.o);have b1:Tab s:=ht.o.below (z.o.trans (a9.o.below z.o.size (λk hk=>by rcases hk with rfl|rfl;exact a3.o;exact a5.o))) nlr
    have c:s.cell? (Ad Q 3)=some (.int .i64 (g:Int))/\s.cell? (Ad Q 2)=some (.string (D.aw q d))/\s.cell? (Ad o g)=some (.string (s1.1 g)) :=
     ⟨by simp[World.cell?,m.o],by simp[World.cell?,m.o],B.o.cell h8⟩
    have g8:=qh<|LG vq (D.aw q d) s J.o d3.o (f5.o q d) b1;rw[<-d1.o]at g8;clear b1
    go_wp2_with fail
    refine Au (λg4=>g4.cell? (Ad Q 3)=some (.int .i64 (g:Int))/\g4.cell? (Ad Q 2)=some (.string (D.aw q d))/\g4.cell? (Ad o g)=some (.string (s1.1 g))) 16 (by kernel_rfl) ?_;rw[<-G];clear G;refine Aa.tm 0 c ?_;refine Aa.tm 1 c ?_;refine Aa.tm 2 c ?_;refine Aa.tm 3 c ?_;refine Aa.tm 4 c ?_;refine Aa.tm 5 c ?_;refine Aa.tm 6 c ?_;refine Aa.tm 7 c ?_;refine Aa.tm 8 c ?_;refine Aa.tm 9 c ?_;refine Aa.tm 10 c ?_;refine Aa.tm 11 c ?_;refine Aa.tm 12 c ?_
    try simp only[Act.put,tryL]
    refine Aa.on 13 λK hK=>?_;go_simp;refine g8.o.mono ?_;rintro r w2⟨rfl,N,T⟩;have d7:w2.cell? (Ad Q 3)=some (.int .i64 (g:Int))/\w2.cell? (Ad Q 2)=some (.string (D.aw q d))/\w2.cell? (Ad o g)=some (.string (s1.1 g)) :=
     ⟨T.cell c.1 b3,T.cell c.2.1 b3,T.cell c.2.2 (λe=>S.o e.symm)⟩
    have U:Fr (λq=>q=u\/q=o) w w2:=a9.o.trans<|T.mono (λ_ _ e=>.inl e);have L:=T.row B.o (λe=>S.o e.symm);have b6:=(T.block Q (lbk m.o) b3).trans m.o;have b2:Tab w2:=ht.o.below (z.o.trans (U.below z.o.size (λk hk=>by rcases hk with rfl|rfl;exact a3.o;exact a5.o))) nlr
    have g6:=qh<|IV (s1.1 g) tp.1 w2 N (Y.o g) d2.o b2;rw[<-e5.o]at g6;replace U:=qh U;clear T;have g7:=qh L;clear L;replace b6:=qh b6;clear N b2;refine hK.out _ _ (.inr d7) ?_;clear hK K
    try simp only[Act.put,tryL]
    refine Aa.on 14 λK hK=>?_;go_simp;refine g6.o.mono ?_;rintro r w3⟨rfl,c8,a4⟩;have f3:w3.cell? (Ad Q 3)=some (.int .i64 (g:Int))/\w3.cell? (Ad Q 2)=some (.string (D.aw q d))/\w3.cell? (Ad o g)=some (.string (s1.1 g)) :=
     ⟨a4.cell d7.1 b3,a4.cell d7.2.1 b3,a4.cell d7.2.2 (λe=>S.o e.symm)⟩
    have W:=a4.row g7.o (λe=>S.o e.symm);have b9:Fr (λq=>q=u\/q=o) w w3:=U.o.trans<|a4.mono (λ_ _ e=>.inl e);have fl:=W.frozen g;replace b9:=qh b9;clear a4;replace W:=qh W;replace c8:=qh c8;refine hK.out _ _ (.inr f3) ?_;clear hK K
    try simp only[Act.put,tryL]
    refine Aa.tm 15 f3 ?_
    try simp only[Act.put,tryL]
    have gl:=f3.2.2;refine Aa.on 16 λK hK=>?_;go_simp;refine hK.out _ _ (.inl rfl) (Aa.dn ?_);clear hK K;go_wp2;go_roundw
    case rel =>
     refine⟨d+1,by omega,by go_num,?_,?_,b9.o.set (.inl (.inr rfl)) _⟩
     ·rw[b0.o];exact(W.o.set g _).congr (λj _=>by
       show _=Value.string (updS s1.1 g zp.1 j);unfold updS;by_cases e:j=g
       ·rw[ifp e,ifp e]
       rw[ifn e,ifn e])
     rw[b0.o];unfold Scl;rw[Ar (show u≠o from S.o)];exact c8.o
    simp[intOf];omega
   have e0:d=D.na q:=by omega
   have i3:¬((d:Int)<(D.na q:Int)):=by omega
   replace e0:=qh e0;go_wp2;go_roundw
   case rel=>exact⟨q+1,by omega,by go_num,by rw[a2.o,<-e0.o];exact E.o,by rw[a2.o,<-e0.o];exact F.o,I.o⟩
   simp[intOf];omega
  have b8:v q=⟨#[]⟩:=by rw[<-a6];exact Ec hE
  have c9:Br D sel v (q+1) (l,e)=Br D sel v q (l,e):=by
   show rowC D sel v q _=_;unfold rowC;rw[ifp b8]
  have a2:=qh c9;clear c9 b8 a6;go_wp2;go_roundw
  case rel=>exact⟨q+1,by omega,by go_num,by rw[a2.o];exact a1.o,by rw[a2.o];exact R.o,Z.o⟩
  simp[intOf];omega
 have e1:q=n:=by omega
 have i3:¬((q:Int)<(n:Int)):=by omega
 replace e1:=qh e1
 go_wp2_with fail
 go_end0
 exact⟨rfl,by rw[<-hn.o];rw[e1.o]at a1;exact a1.o,by rw[e1.o]at R;exact R.o,Z.o⟩
variable{J j n xb:Nat}{x y:Nat->Int}
theorem Nu{vb:Nat}{D:MD}{sv star:Value}{e:Nat}{v:Nat->ByteArray}(w0 w:World)(hv:VM D)(hD:StS none w0 sv D)(z:Below w0.heap.size w0 w)(ht:Tab w0)
  (hs:Scl w J D sv star e) (R:w.rowIs vb 9 D.n (λj=>.string (v j))) (L:w0.heap.size<=J) (a3:vb≠J) (S:∀j,smS (v j)) (Z:∀i,smS (D.fin i)) :
  Calls prog 88 #[.pointer (some (Ad J 0)),.slice (some (Ad vb 0)) D.n D.n] w (λr w'=>r=.returned (.tuple #[.string (finC D v e).1,.int .i64 ((finC D v e).2:Int)])/\Fr (λq=>q=J) w w'):=by
 obtain⟨a,cp,b,a4,A,C,BB,O,rfl,ha,hc,hm,hb,o⟩:=hD.open;unfold maxLen at hm;obtain⟨n,hn⟩:=exq<|D.n;have c9:n<=3000:=by rw[hn];exact hv.n2
 have c8:1<=n:=by rw[hn];exact hv.n1
 rw[<-hn]at ha hc hb o R hs ⊢;replace hn:=qh hn;replace hv:=qh hv;replace ha:=qh ha;replace hb:=qh hb;replace o:=qh o;clear hD;replace ht:=qh ht;replace z:=qh z;have b7:=hs.c0;have HS:=qh hs;clear hs;replace R:=qh R;replace S:=qh S;replace Z:=qh Z;replace a3:=qh a3;replace L:=qh L;obtain rfl:=ha.o (by omega)
 go_enter func88,ntmps88
 go_wp2_with fail
 refine(Gy D.kind w).mono ?_;rintro r w1⟨rfl,X⟩;have b4:Scl w1 J D (.slice (some (Ad b a4)) n cp) star e:=by unfold Scl;rw[X.block J HS.o.lt];exact HS.o
 have b0:Fr (λq=>q=J) w w1:=Fr.of_below X;have a8:=qh b4;clear b4 X HS;have a6:=qh b0;clear b0 b7
 go_wp2_with fail
 go_loopw [6,18] (λs i wr=>∃q:Nat,q<=n/\i=.int .i64 (q:Int)/\s=.string (endC D v q (Af D.kind,e)).1/\Scl wr J D (.slice (some (Ad b a4)) n cp) star (endC D v q (Af D.kind,e)).2/\Fr (λq=>q=J) w wr) (λ_ i _=>n-(intOf i).toNat)
 case atStart=>exact⟨0,Nat.zero_le _,rfl,rfl,a8.o,a6.o⟩
 obtain⟨q,hq,rfl,rfl,h,c⟩:=hrel;clear a8 a6;replace h:=qh h;replace c:=qh c;by_cases b3:q<n
 ·have d0:(q:Int)<(n:Int):=by omega
  have b8:(0:Int)<=(q:Int):=by omega
  have cv:=c.o.cell (R.o.cell b3) (p:=(Ad vb q)) a3.o;have a5:=qh (z.o.trans (c.o.below z.o.size (λk hk=>by subst hk;exact L.o)));have b6:=(hb.o (by omega)).1;obtain⟨k1,_,_,_,_,_,_⟩:=o.o q b3;have c1:=(a5.o.cell (p:=(Ad b (a4+q*2))) b6).trans k1;have m3:=h.o.c3;clear k1;obtain⟨s0,g⟩:=exq<|endC D v q (Af D.kind,e);have a2:smS s0.1:=by rw[g];exact Nh S.o q (show smS (Af D.kind) from Nat.le_trans (GM D.kind) (by omega))
  have d:endC D v (q+1) (Af D.kind,e)=if v q=⟨#[]⟩\/D.fin q=⟨#[]⟩ then s0 else AN D.kind s0.1 (AQ D.kind (v q) (D.fin q) s0.2).1 (AQ D.kind (v q) (D.fin q) s0.2).2:=by
   rw[g];rfl
  rw[<-g]at h;rw[<-g];replace a2:=qh a2;replace d:=qh d;clear g;obtain⟨U,Q⟩:=exq<|v q;obtain⟨K,N⟩:=exq<|D.fin q;rw[<-Q]at cv;rw[<-N]at c1;rw[<-Q,<-N]at d;have u:smS U:=by rw[Q];exact S.o q
  have G:smS K:=by rw[N];exact Z.o q
  replace u:=qh u;clear Q;replace G:=qh G;clear N;cases hE:(U.toList==[]);cases hF:(K.toList==[])
  ·have B:¬(U=⟨#[]⟩\/K=⟨#[]⟩):=λe=>by
    rcases e with e|e
    ·rw[e]at hE;simp at hE
    rw[e]at hF;simp at hF
   rw[ifn B]at d;clear B;obtain⟨tp,P⟩:=exq<|AQ D.kind U K s0.2;obtain⟨zp,T⟩:=exq<|AN D.kind s0.1 tp.1 tp.2;rw[<-P,<-T]at d;have E:Tab wr:=ht.o.below a5.o nlr;have a9:=qh<|LG U K wr h.o u.o G.o E;rw[<-P]at a9;have I:smS tp.1:=by rw[P];exact FB u.o
   replace I:=qh I;clear P E;replace T:=qh T
   go_wp2_with fail
   refine a9.o.mono ?_;rintro r w2⟨rfl,W,b1⟩;have l:=c.o.trans b1;have F:Tab w2:=ht.o.below (z.o.trans (l.below z.o.size (λk hk=>by subst hk;exact L.o))) nlr;have a7:=qh<|IV s0.1 tp.1 w2 W a2.o I.o F;rw[<-T.o]at a7;replace l:=qh l;clear b1 W F cv c1 m3
   go_wp2_with fail
   refine a7.o.mono ?_;rintro r w3⟨rfl,H,b2⟩;have b5:=qh<|l.o.trans b2;clear b2;replace H:=qh H;go_wp2;go_roundw
   case rel=>exact⟨q+1,by omega,by go_num,by rw[d.o],by rw[d.o];exact H.o,b5.o⟩
   simp[intOf];omega
  have B:(U=⟨#[]⟩\/K=⟨#[]⟩):=.inr<|Ec hF
  rotate_left
  have B:(U=⟨#[]⟩\/K=⟨#[]⟩):=.inl<|Ec hE
  all_goals
   rw[ifp B]at d;clear B;go_wp2;go_roundw
   case rel=>exact⟨q+1,by omega,by go_num,by rw[d.o],by rw[d.o];exact h.o,c.o⟩
   simp[intOf];omega
 have a1:q=n:=by omega
 have c7:¬((q:Int)<(n:Int)):=by omega
 replace a1:=qh a1;obtain⟨s0,g⟩:=exq<|endC D v q (Af D.kind,e);have m:finC D v e=if s0.2≠0 then (⟨#[]⟩,s0.2) else (s0.1,0):=by unfold finC;rw[<-hn.o,<-a1.o,<-g]
 rw[<-g]at h;rw[<-g];replace m:=qh m;clear g;have m5:=h.o.c5;by_cases Y:s0.2=0
 ·rw[Y]at m5;replace Y:=qh Y;go_wp2;go_ret2;exact⟨by rw[m.o,ifn (by rw[Y.o];simp)];rfl,c.o⟩
 have b9:¬((s0.2:Int)=0):=by omega
 replace Y:=qh Y
 go_wp2_with fail
 go_quiet (fail)
 go_wp2;go_ret2;exact⟨by rw[m.o,ifp Y.o];rfl,⟨c.o.os,c.o.tape,c.o.output,c.o.size,c.o.block⟩⟩
theorem UM:∀args w,(callFunc 120 args).run prog w=.ok (.enter 120 args) w:=λargs w=>by kernel_rfl
theorem z0p(w:World)(s:Int):Calls prog 120 #[.int .i64 s] w (λr w'=>r=.returned (.bool (offI 500 s))/\w'=w):=by
 by_cases d:s<1
 ·go_enter func120,ntmps120
  go_wp2;go_ret;exact⟨Az (by simp[offI,d]),rfl⟩
 have c:decide (s<1)=false:=by simp;omega
 go_enter func120,ntmps120
 go_wp2;go_ret;exact⟨Az (by simp[offI,c]),rfl⟩
def isWord(n:Nat)(x:Nat->Int):Bool:=decide (n<=200)&&DC n x 500
theorem RB{v:Value}(w:World)(d:Si none w v n x)(hn:(n:Int)<=9223372036854775807):
  Calls prog 77 #[v] w (λr w'=>r=.returned (.bool (isWord n x))/\w'=w):=by
 have c:=MI w d hn (show TstF 120 #[] (offI 500) w from ⟨UM,λs=>z0p w s⟩);obtain⟨a,g,rfl⟩:=d.shape;replace c:=qh c;clear d;by_cases h:(n:Int)<=200
 ·go_enter func77,ntmps77
  go_wp2_with fail
  refine c.o.mono ?_;rintro r j⟨rfl,rfl⟩;go_wp2;go_ret;exact⟨Az (by unfold isWord DC;rw[show decide (n<=200)=true by simp;omega];simp),rfl⟩
 have i:decide ((n:Int)<=200)=false:=by simp;omega
 go_enter func77,ntmps77
 go_wp2;go_ret;exact⟨Az (by unfold isWord;rw[show decide (n<=200)=false by simp;omega];rfl),rfl⟩
theorem UH:∀args w,(callFunc 79 args).run prog w=.ok (.enter 79 args) w:=λargs w=>by kernel_rfl
def silB(i o:Int):Bool:=decide (i=0)&&decide (o=0)
theorem YT(w:World)(i o:Int)(s:ByteArray)(t:Int):Calls prog 79 #[.agg #[.int .i64 i,.int .i64 o,.string s,.int .i64 t]] w (λr w'=>r=.returned (.bool (silB i o))/\Below w.heap.size w w'):=by
 have c:=(Below.refl w.heap.size w).alloc nlr (.cells #[.int .i64 i,.int .i64 o,.string s,.int .i64 t] 59);replace c:=qh c;by_cases d:i=0
 ·subst d
  go_enter func79,ntmps79
  go_wp2;go_ret;exact⟨Az (by by_cases h:o=0<;>simp[silB,h]),c.o⟩
 go_enter func79,ntmps79
 go_wp2;go_ret;exact⟨Az (by simp[silB,d]),c.o⟩
def BxI(w:World)(xb:Nat)(n:Nat)(x:Nat->Int):Prop:=∃v,w.cell? (Ad xb 0)=some v/\Si none w v n x
theorem UJ:∀args w,(callFunc 85 args).run prog w=.ok (.enter 85 args) w:=λargs w=>by kernel_rfl
theorem UK:∀args w,(callFunc 86 args).run prog w=.ok (.enter 86 args) w:=λargs w=>by kernel_rfl
theorem UL:∀args w,(callFunc 87 args).run prog w=.ok (.enter 87 args) w:=λargs w=>by kernel_rfl
def sel2(y:Int)(i o:Int):Bool:=decide (i=0)&&decide (o=y)
def sel3(x:Int)(i o:Int):Bool:=decide (i=x)&&decide (o=0)
def sel4(x y:Int)(i o:Int):Bool:=decide (i=x)&&decide (o=y)
theorem z1m{K:Nat}(w:World)(Q:BxI w K n y)(G:w.cell? (Ad J 0)=some (.int .i64 (j:Int)))(C:j<n)(i o:Int)(s:ByteArray)(t:Int):
  Calls prog 85 #[.agg #[.int .i64 i,.int .i64 o,.string s,.int .i64 t],.pointer (some (Ad K 0)),.pointer (some (Ad J 0))] w (λr w'=>r=.returned (.bool (sel2 (y j) i o))/\Below w.heap.size w w'):=by
 obtain⟨v,I,m⟩:=Q;obtain⟨a,L,b,R,rfl,F,W,P,hb,k⟩:=m.open;obtain rfl:=F (by omega);unfold maxLen at P;have c0:=k j C;clear k m;have O:(j:Int)<(n:Int):=by omega
 have H:(0:Int)<=(j:Int):=by omega
 obtain⟨p,c⟩:=exq<|w.alloc (.cells #[.int .i64 i,.int .i64 o,.string s,.int .i64 t] 59);obtain⟨z,g⟩:=exq<|w.heap.size;have d:=(Below.refl w.heap.size w).alloc nlr (.cells #[.int .i64 i,.int .i64 o,.string s,.int .i64 t] 59);have u:w.grownBy p none:=by rw[c];exact World.grownBy_alloc _ _ _
 rw[<-c]at d;have a0:p.cell? (Ad z 0)=some (.int .i64 i):=by rw[c,g];exact CV w _ _ 0 _ rfl
 have S:p.cell? (Ad z 1)=some (.int .i64 o):=by rw[c,g];exact CV w _ _ 1 _ rfl
 have T:=u.cell I (by simp);have U:=u.cell G (by simp);have N:=u.cell c0 (by simp);replace d:=qh d;clear hb F I G c0 u;obtain⟨D,l⟩:=exq<|y j;rw[<-l]at N;rw[<-l];clear l;by_cases E:i=0
 ·subst E
  go_enter func85,ntmps85
  go_wp2_with fail
  rw[<-c,<-g];have B:=qh c;clear c;have A:=qh g;clear g
  go_quiet (fail)
  go_wp2;go_ret;exact⟨Az (by by_cases h:o=D<;>simp[sel2,h]),below_drewN d.o _⟩
 go_enter func85,ntmps85
 go_wp2_with fail
 rw[<-c,<-g];have B:=qh c;clear c;have A:=qh g;clear g
 go_quiet (fail)
 go_wp2;go_ret;exact⟨Az (by simp[sel2,E]),below_drewN d.o _⟩
theorem z1n(w:World)(P:BxI w xb n x)(G:w.cell? (Ad J 0)=some (.int .i64 (j:Int)))(C:j<n)(i o:Int)(s:ByteArray)(t:Int):
  Calls prog 86 #[.agg #[.int .i64 i,.int .i64 o,.string s,.int .i64 t],.pointer (some (Ad xb 0)),.pointer (some (Ad J 0))] w (λr w'=>r=.returned (.bool (sel3 (x j) i o))/\Below w.heap.size w w'):=by
 obtain⟨v,I,m⟩:=P;obtain⟨a,K,b,Q,rfl,F,U,O,hb,k⟩:=m.open;obtain rfl:=F (by omega);unfold maxLen at O;have c0:=k j C;clear k m;have N:(j:Int)<(n:Int):=by omega
 have H:(0:Int)<=(j:Int):=by omega
 obtain⟨p,c⟩:=exq<|w.alloc (.cells #[.int .i64 i,.int .i64 o,.string s,.int .i64 t] 59);obtain⟨z,g⟩:=exq<|w.heap.size;have d:=(Below.refl w.heap.size w).alloc nlr (.cells #[.int .i64 i,.int .i64 o,.string s,.int .i64 t] 59);have u:w.grownBy p none:=by rw[c];exact World.grownBy_alloc _ _ _
 rw[<-c]at d;have a0:p.cell? (Ad z 0)=some (.int .i64 i):=by rw[c,g];exact CV w _ _ 0 _ rfl
 have R:p.cell? (Ad z 1)=some (.int .i64 o):=by rw[c,g];exact CV w _ _ 1 _ rfl
 have S:=u.cell I (by simp);have T:=u.cell G (by simp);have L:=u.cell c0 (by simp);replace d:=qh d;clear hb F I G c0 u;obtain⟨D,l⟩:=exq<|x j;rw[<-l]at L;rw[<-l];clear l;by_cases E:i=D
 ·subst E
  go_enter func86,ntmps86
  go_wp2_with fail
  rw[<-c,<-g];have B:=qh c;clear c;have A:=qh g;clear g
  go_quiet (fail)
  go_wp2;go_ret;exact⟨Az (by by_cases h:o=0<;>simp[sel3,h]),below_drewN d.o _⟩
 go_enter func86,ntmps86
 go_wp2_with fail
 rw[<-c,<-g];have B:=qh c;clear c;have A:=qh g;clear g
 go_quiet (fail)
 go_wp2;go_ret;exact⟨Az (by simp[sel3,E]),below_drewN d.o _⟩
theorem z1p{ib m k yb jb:Nat}(w:World)(hx:BxI w xb m x)(Y:w.cell? (Ad ib 0)=some (.int .i64 (k:Int)))(O:k<m)(hy:BxI w yb n y)(W:w.cell? (Ad jb 0)=some (.int .i64 (j:Int)))(N:j<n)(i o:Int)(s:ByteArray)(t:Int):
  Calls prog 87 #[.agg #[.int .i64 i,.int .i64 o,.string s,.int .i64 t],.pointer (some (Ad xb 0)),.pointer (some (Ad ib 0)),.pointer (some (Ad yb 0)),.pointer (some (Ad jb 0))] w (λr w'=>r=.returned (.bool (sel4 (x k) (y j) i o))/\Below w.heap.size w w'):=by
 obtain⟨v',F,u⟩:=hx;obtain⟨a',S,b',a2,rfl,D,a6,P,L,l⟩:=u.open;obtain rfl:=D (by omega);have C:=l k O;unfold maxLen at P;have a8:(k:Int)<(m:Int):=by omega
 have Z:(0:Int)<=(k:Int):=by omega
 clear l u;obtain⟨v,hv,E⟩:=hy;obtain⟨a,a3,b,a9,rfl,U,hc,hm,hb,p⟩:=E.open;obtain rfl:=U (by omega);unfold maxLen at hm;have c0:=p j N;clear p E;have a7:(j:Int)<(n:Int):=by omega
 have X:(0:Int)<=(j:Int):=by omega
 obtain⟨G,c⟩:=exq<|w.alloc (.cells #[.int .i64 i,.int .i64 o,.string s,.int .i64 t] 59);obtain⟨H,g⟩:=exq<|w.heap.size;have d:=(Below.refl w.heap.size w).alloc nlr (.cells #[.int .i64 i,.int .i64 o,.string s,.int .i64 t] 59);have z:w.grownBy G none:=by rw[c];exact World.grownBy_alloc _ _ _
 rw[<-c]at d;have a0:G.cell? (Ad H 0)=some (.int .i64 i):=by rw[c,g];exact CV w _ _ 0 _ rfl
 have a1:G.cell? (Ad H 1)=some (.int .i64 o):=by rw[c,g];exact CV w _ _ 1 _ rfl
 have d0:=z.cell hv (by simp);have d1:=z.cell W (by simp);have d2:=z.cell c0 (by simp);have a4:=z.cell F (by simp);have a5:=z.cell Y (by simp);have K:=z.cell C (by simp);replace d:=qh d;clear hb U hv W c0 z L D F Y C;obtain⟨Q,A⟩:=exq<|x k;rw[<-A]at K;rw[<-A];clear A;obtain⟨R,B⟩:=exq<|y j;rw[<-B]at d2;rw[<-B];clear B;by_cases T:i=Q
 ·subst T
  go_enter func87,ntmps87
  go_wp2_with fail
  rw[<-c,<-g];have J:=qh c;clear c;have I:=qh g;clear g
  go_quiet (fail)
  go_wp2;go_ret;exact⟨Az (by by_cases h:o=R<;>simp[sel4,h]),below_drewN d.o _⟩
 go_enter func87,ntmps87
 go_wp2_with fail
 rw[<-c,<-g];have J:=qh c;clear c;have I:=qh g;clear g
 go_quiet (fail)
 go_wp2;go_ret;exact⟨Az (by simp[sel4,T]),below_drewN d.o _⟩
theorem Ed(t e:TypeId)(h:prog.underlying t=some (.slice e))(w:World)(a:Option Addr)(n c:Nat):(binOp .eql t (.slice a n c) (.slice none 0 0)).run prog w=.ok (.bool a.isNone) w:=by
 simp only[binOp];simp[run_equal_slice_nil w t e a n c h]
theorem Ow(t e:TypeId)(h:prog.underlying t=some (.slice e))(w:World)(a:Option Addr)(n c:Nat):(binOp .neq t (.slice a n c) (.slice none 0 0)).run prog w=.ok (.bool (!a.isNone)) w:=run_neq_slice_nil w t e a n c h
end
section
open Go.RowKit Go.Deep
variable{b:Bool}{j r:Nat}
abbrev VV:=Nat->ByteArray
abbrev RS:=(Bool->Nat->Option VV) × Nat
def updV(S:Bool->Nat->Option VV)(b:Bool)(j:Nat)(x:VV):Bool->Nat->Option VV:=λb' j'=>if b'=b/\j'=j then some x else S b' j'
def By(D:MD)(b:Bool)(j:Nat)(sel:Int->Int->Bool)(v:VV)(s:RS):RS:=(updV s.1 b j (Br D sel v D.n ((s.1 b j).getD Ax,s.2)).1,(Br D sel v D.n ((s.1 b j).getD Ax,s.2)).2)
def cell1(D:MD)(nb:Nat)(y:Nat->Int)(j:Nat)(v:VV)(s:RS):RS:=if j<nb then By D false (j+1) (sel2 (y j)) v s else s
def cell2(D:MD)(na:Nat)(x:Nat->Int)(i j:Nat)(v:VV)(s:RS):RS:=if i<na then By D true j (sel3 (x i)) v s else s
def cell3(D:MD)(na:Nat)(x:Nat->Int)(nb:Nat)(y:Nat->Int)(i j:Nat)(v:VV)(s:RS):RS:=if i<na/\j<nb then By D true (j+1) (sel4 (x i) (y j)) v s else s
def twoR(row next:Nat->Option VV):Bool->Nat->Option VV:=λb=>if b then next else row
def vrV(n:Nat):Option Nat->Value
 |none=>.slice none 0 0
 |some r=>.slice (some (Ad r 0)) n n
structure VR(w:World)(B:Nat)(g:Bool->Nat)(m n:Nat)(R:Bool->Nat->Option Nat)(S:Bool->Nat->Option VV):Prop where
 top:∀b,w.rowIs (g b) 102 m (λj=>vrV n (R b j))
 gne:g false≠g true
 low:∀b,B<=g b
 non:∀b j,j<m->(R b j=none↔S b j=none)
 row:∀b j r x,j<m->R b j=some r->S b j=some x->w.rowIs r 9 n (λq=>.string (x q))/\B<=r
 sep:∀b j b' j' r,j<m->j' < m->R b j=some r->R b' j'=some r->b=b'/\j=j'
 sm:∀b j x,S b j=some x->∀q,smS (x q)
theorem Iq{w:World}{g i n o:Nat}{e e':TypeId}{F j:Nat->Value}(h:w.rowIs g e n F)(k:w.rowIs i e' o j)(m:e≠e'):g≠i:=by
 rintro rfl;obtain⟨c,l,_⟩:=h;obtain⟨p,d,_⟩:=k;rw[l]at d;simp at d;exact m d.2
namespace VR
variable{w w':World}{B:Nat}{g:Bool->Nat}{m n:Nat}{R:Bool->Nat->Option Nat}{S:Bool->Nat->Option VV}
theorem some_of(h:VR w B g m n R S){x:VV}(c:j<m)(i:S b j=some x):∃r,R b j=some r/\w.rowIs r 9 n (λq=>.string (x q))/\B<=r:=by
 cases d:R b j with
 |none=>have:=(h.non b j c).1 d;rw[i]at this;cases this
 |some r=>exact⟨r,rfl,h.row b j r x c d i⟩
theorem topne(h:VR w B g m n R S){b':Bool}{x:VV}(c:j<m)(d:R b j=some r)(i:S b j=some x):g b'≠r:=Iq (h.top b') (h.row b j r x c d i).1 (by decide)
theorem kept{C:Nat->Prop}(h:VR w B g m n R S)(hf:Fr C w w')(k:∀b,¬C (g b))(l:∀b j r,j<m->R b j=some r->¬C r):VR w' B g m n R S :=
 ⟨λb=>hf.row (h.top b) (k b),h.gne,h.low,h.non,λb j r x d c i=>⟨hf.row (h.row b j r x d c i).1 (l b j r d c),(h.row b j r x d c i).2⟩,h.sep,h.sm⟩
theorem fresh(h:VR w B g m n R S){x:VV}(L:B<=w.heap.size)(N:w.heap.size<=r)(hf:Fr (λq=>q=g b) w w')(K:w'.rowIs r 9 n (λq=>.string (x q)))(I:∀q,smS (x q))
  (J:w'.rowIs (g b) 102 m (λj'=>if j'=j then vrV n (some r) else vrV n (R b j'))):VR w' B g m n (λb' j'=>if b'=b/\j'=j then some r else R b' j') (updV S b j x):=by
 have u:∀b' j' l,j' < m->R b' j'=some l->l<w.heap.size:=λb' j' l d c=>by
  cases z:S b' j' with
  |none=>have:=(h.non b' j' d).2 z;rw[c]at this;cases this
  |some x0=>exact(h.row b' j' l x0 d c z).1.lt
 refine⟨λb'=>?_,h.gne,h.low,λb' j' d=>?_,λb' j' l H d c i=>?_,λF G C E l p s c i=>?_,λb' j' H c=>?_⟩
 ·by_cases e:b'=b
  ·subst e;refine J.congr (λj' _=>?_);by_cases e:j'=j
   ·rw[ifp e,ifp ⟨rfl,e⟩]
   rw[ifn e,ifn (λh=>e h.2)]
  refine(hf.row (h.top b') (λk=>?_)).congr (λj' _=>by rw[ifn (λh=>e h.1)]);have o:=h.gne;cases b'<;>cases b<;>first|exact e rfl|exact o k|exact o k.symm
 ·unfold updV;by_cases e:b'=b/\j'=j
  ·rw[ifp e,ifp e];simp
  rw[ifn e,ifn e];exact h.non b' j' d
 ·unfold updV at i;by_cases e:b'=b/\j'=j
  ·rw[ifp e]at c i;cases c;cases i;exact⟨K,by omega⟩
  rw[ifn e]at c i;have o:=h.row b' j' l H d c i;exact⟨hf.row o.1 (λk=>Iq (h.top b) o.1 (by decide) k.symm),o.2⟩
 ·by_cases D:F=b/\G=j
  ·by_cases k:C=b/\E=j
   ·exact⟨D.1.trans k.1.symm,D.2.trans k.2.symm⟩
   rw[ifp D]at c;rw[ifn k]at i;cases c;have:=u C E r s i;omega
  rw[ifn D]at c;by_cases k:C=b/\E=j
  ·rw[ifp k]at i;cases i;have:=u F G r p c;omega
  rw[ifn k]at i;exact h.sep F G C E l p s c i
 unfold updV at c;by_cases e:b'=b/\j'=j
 ·rw[ifp e]at c;cases c;exact I
 rw[ifn e]at c;exact h.sm b' j' H c
end VR
def AtE(B:Nat)(g:Bool->Nat)(m n:Nat)(S:Bool->Nat->Option VV)(R:Bool->Nat->Option Nat)(b:Bool)(j:Nat)(w:World)(r:Ending)(w':World):Prop :=
 ∃R' r0,r=.returned (.slice (some (Ad r0 0)) n n)/\R' b j=some r0/\(∀b' j',¬(b'=b/\j'=j)->R' b' j'=R b' j')/\VR w' B g m n R' (updV S b j ((S b j).getD Ax))/\Fr (λq=>q=g b) w w'
theorem Gc(q:Nat):smS (Ax q):=by show (⟨#[]⟩:ByteArray).size<=_;decide
theorem GT{Y X B m:Nat}{g:Bool->Nat}{R:Bool->Nat->Option Nat}{S:Bool->Nat->Option VV}{D:MD}{a:Option Addr}{cap:Nat}{star:Value}{e:Nat}(w:World)(h:VR w B g m D.n R S)(L:Scl w Y D (.slice a D.n cap) star e)
  (h8:w.cell? (Ad X 0)=some (.pointer (some (Ad Y 0)))) (I:j<m) (hB:B<=w.heap.size) (h1:1<=D.n) (hn:D.n<=3000) :
  Calls prog 81 #[.slice (some (Ad (g b) 0)) m m,.int .i64 (j:Int),.pointer (some (Ad X 0))] w (AtE B g m D.n S R b j w):=by
 have a3:(j:Int)<(m:Int):=by omega
 have Z:(0:Int)<=(j:Int):=by omega
 obtain⟨gb,i⟩:=exq<|g b;have c0:=(h.top b).cell I;rw[<-i]at c0;cases F:R b j with
 |none =>
  have U:=λw=>Ed 102 9 underlying102 w none 0 0;rw[show (none:Option Addr).isNone=true from rfl]at U;rw[F]at c0;have P:w.cell? (Ad gb j)=some (.slice none 0 0):=c0;clear c0;have N:=qh<|IR w L h1 hn;have c:=qh h;clear h;have HS:=qh L;clear L;have H:=qh F;clear F;have d:=qh i;rw[<-i];clear i
  go_enter func81,ntmps81
  go_wp2_with fail
  refine N.o.mono ?_;rintro r K⟨rfl,p,hf,hz⟩;obtain⟨o,C⟩:=exq<|w.heap.size;rw[<-C]at p;rw[<-C];have l:K.rowIs gb 102 m (λj=>vrV D.n (R b j)):=by rw[d.o];exact hf.row (c.o.top b) (λe=>e)
  have f0:=l.frozen j;have Q:=l.cell I;have u:=l.set j (vrV D.n (some o));have J:o≠gb:=by have:=(c.o.top b).lt;rw[<-d.o]at this;omega
  have s:=p.setOther (a:=(Ad gb j)) J (vrV D.n (some o));have A:=c.o.low b;rw[<-d.o]at A;have z:Fr (λq=>q=g b) w (K.setCell (Ad gb j) (vrV D.n (some o))):=(hf.mono (λ_ _ e=>e.elim)).set (.inl d.o) _;have k:(K.setCell (Ad gb j) (vrV D.n (some o))).rowIs (g b) 102 m (λG=>if G=j then vrV D.n (some o) else vrV D.n (R b G)):=by rw[<-d.o];exact u
  have E:=c.o.fresh (j:=j) hB (show w.heap.size<=o by omega) z s Gc k;have T:=k.cell I;rw[ifp rfl,<-d.o]at T;have a2:(K.setCell (Ad gb j) (.slice (some (Ad o 0)) D.n D.n)).cell? (Ad gb j)=some (.slice (some (Ad o 0)) D.n D.n):=T;replace E:=qh E;replace z:=qh z;rw[H.o]at Q;have a1:K.cell? (Ad gb j)=some (.slice none 0 0):=Q;clear l u s p hf hz C k T Q A J;go_wp2;go_ret;have W:(S b j).getD Ax=Ax:=by
   rw[(c.o.non b j I).1 H.o];rfl
  exact⟨_,o,rfl,ifp ⟨rfl,rfl⟩,λO G h=>ifn h,by rw[W];exact E.o,z.o⟩
 |some r0 =>
  rw[F]at c0;have P:w.cell? (Ad gb j)=some (.slice (some (Ad r0 0)) D.n D.n):=c0;clear c0;have U:=λw=>Ed 102 9 underlying102 w (some (Ad r0 0)) D.n D.n;rw[show (some ((Ad r0 0):Addr)).isNone=false from rfl]at U;have c:=qh h;clear h;have H:=qh F;clear F;rw[<-i];have d:=qh i;clear i;clear L
  go_enter func81,ntmps81
  go_wp2;go_ret;refine⟨R,r0,rfl,H.o,λO G _=>rfl,?_,Fr.refl _ _⟩;cases hx:S b j with
  |none=>have:=(c.o.non b j I).2 hx;rw[H.o]at this;cases this
  |some x =>
   have hu:updV S b j ((some x).getD Ax)=S:=by
    funext O G
    unfold updV;by_cases e:O=b/\G=j
    ·rw[ifp e,e.1,e.2,hx];rfl
    rw[ifn e]
   rw[hu];exact c.o
end
section
open Go.RowKit Go.Deep
variable{B d g i j l m n o p q r xb:Nat}{c k w:World}{t:TypeId}{b b':Bool}{cs:Array Value}{x y:Nat->Int}{u v z:Value}
theorem AA{b:Nat}{e:TypeId}{f:Nat->Value}{fr:Nat × Nat}(h:w.rowIs g e n f)(hb:w.heap[b]?=some (.cells cs t fr))(i:t≠e):g≠b:=by
 rintro rfl;obtain⟨c,d,_⟩:=h;rw[d]at hb;simp at hb;exact i hb.2.1.symm
def Bx(w:World)(b:Nat)(t:TypeId)(v:Value):Prop:=w.heap[b]?=some (.cells #[v] t (0,0))
theorem Bx.cell{w:World}{b:Nat}{t:TypeId}{v:Value}(h:Bx w b t v):w.cell? (Ad b 0)=some v:=by unfold Bx at h;simp[World.cell?,h]
theorem Bx.lt{b:Nat}(h:Bx w b t v):b<w.heap.size:=(Array.getElem?_eq_some_iff.1 h).1
theorem Bx.kept{b:Nat}{C:Nat->Prop}(h:Bx w b t v)(hf:Fr C w c)(d:¬C b):Bx c b t v:=(hf.block b h.lt d).trans h
structure WE(w0 w:World)(cb c8 xb yb:Nat)(D:MD)(sv xv yv:Value)(e:Nat):Prop where
 hb:Below w0.heap.size w0 w
 sc:Scl w cb D sv (.slice none 0 0) e
 k8:Bx w c8 98 (.pointer (some (Ad cb 0)))
 kx:Bx w xb 25 xv
 ky:Bx w yb 25 yv
 lc:w0.heap.size<=cb
namespace WE
variable{w0 w w':World}{cb c8 xb yb:Nat}{D:MD}{sv xv yv:Value}{e:Nat}
end WE
structure PWt(w0:World)(cb xb yb ib jb:Nat)(xv yv:Value)(i j:Nat)(w:World):Prop where
 hb:Below w0.heap.size w0 w
 kx:Bx w xb 25 xv
 ky:Bx w yb 25 yv
 ki:Bx w ib 3 (.int .i64 (i:Int))
 kj:Bx w jb 3 (.int .i64 (j:Int))
 nx:xb≠cb
 ny:yb≠cb
 ni:ib≠cb
 nj:jb≠cb
theorem PWt.fr{l wa s:World}(h:PWt l g xb p m o u z i j wa)(hf:Fr (λq=>q=g\/q=d) wa s)(A:l.heap.size<=g)(B:l.heap.size<=d)(F:xb≠d)(G:p≠d)(D:m≠d)(E:o≠d):PWt l g xb p m o u z i j s:=by
 have k:∀q,q≠g->q≠d->¬(q=g\/q=d):=λq a b c=>c.elim a b;exact⟨h.hb.trans (hf.below h.hb.size (λq C=>by rcases C with rfl|rfl;exact A;exact B)),h.kx.kept hf (k _ h.nx F),h.ky.kept hf (k _ h.ny G),h.ki.kept hf (k _ h.ni D),h.kj.kept hf (k _ h.nj E),h.nx,h.ny,h.ni,h.nj⟩
theorem GY{d:Value}(g:Si none c d n x)(hb:Below c.heap.size c w)(h:Bx w xb 25 d):BxI w xb n x:=⟨d,h.cell,g.kept (Ab hb none)⟩
theorem tst2{u:Nat}{A m:Value}(s:Si none k m n y)(p:j<n):TstA 85 #[.pointer (some (Ad l 0)),.pointer (some (Ad g 0))] (sel2 (y j)) (PWt k o xb l u g A m i j) :=
 ⟨UJ,λz d i0 o0 s0 t0=>by
  have h:=z1m z (GY s d.hb d.ky) d.kj.cell p i0 o0 s0 t0;rw[show ∀a b c:Value,(#[a]++#[b,c]:Array Value)=#[a,b,c] from λ_ _ _=>rfl];exact h⟩
theorem tst3{u:Nat}{l:Value}(o:Si none k l n x)(hi:i<n):TstA 86 #[.pointer (some (Ad xb 0)),.pointer (some (Ad g 0))] (sel3 (x i)) (PWt k m xb u g p l z i j) :=
 ⟨UK,λs d i0 o0 s0 t0=>by
  have h:=z1n s (GY o d.hb d.kx) d.ki.cell hi i0 o0 s0 t0;rw[show ∀a b c:Value,(#[a]++#[b,c]:Array Value)=#[a,b,c] from λ_ _ _=>rfl];exact h⟩
theorem tst4{z s:Nat}{p:Value}(B:Si none k p n x)(hi:i<n)(C:Si none k u o y)(A:j<o):TstA 87 #[.pointer (some (Ad xb 0)),.pointer (some (Ad l 0)),.pointer (some (Ad s 0)),.pointer (some (Ad m 0))] (sel4 (x i) (y j)) (PWt k z xb s l m p u i j) :=
 ⟨UL,λD g i0 o0 s0 t0=>by
  have h:=z1p D (GY B g.hb g.kx) g.ki.cell hi (GY C g.hb g.ky) g.kj.cell A i0 o0 s0 t0;rw[show ∀a b c d e:Value,(#[a]++#[b,c,d,e]:Array Value)=#[a,b,c,d,e] from λ_ _ _ _ _=>rfl];exact h⟩
theorem IK{S:Bool->Nat->Option VV}{c:Nat}{x:VV}(h:¬(b'=b/\c=j)):updV S b j x b' c=S b' c:=ifn h
theorem DT(S:Bool->Nat->Option VV)(b:Bool)(j:Nat)(x:VV):updV S b j x b j=some x:=ifp ⟨rfl,rfl⟩
theorem IB{D:MD}{c:Nat}{sel:Int->Int->Bool}{v:VV}{s:RS}(h:¬(b'=b/\c=j)):(By D b j sel v s).1 b' c=s.1 b' c:=ifn h
theorem IL(S:Bool->Nat->Option VV)(b:Bool)(j:Nat)(x y:VV):updV (updV S b j x) b j y=updV S b j y:=by
 funext b' j';unfold updV;by_cases e:b'=b/\j'=j<;>simp[e]
namespace VR
variable{w w':World}{B:Nat}{g:Bool->Nat}{m n:Nat}{R:Bool->Nat->Option Nat}{S:Bool->Nat->Option VV}
theorem gne_of(h:VR w B g m n R S){fr:Nat × Nat}(c:w.heap[q]?=some (.cells cs t fr))(d:t≠102)(b:Bool):g b≠q:=AA (h.top b) c d
theorem rne_of(h:VR w B g m n R S){fr:Nat × Nat}(k:w.heap[q]?=some (.cells cs t fr))(l:t≠9)(d:j<m)(i:R b j=some r):r≠q:=by
 cases c:S b j with
 |none=>have:=(h.non b j d).2 c;rw[i]at this;cases this
 |some x0=>exact AA (h.row b j r x0 d i c).1 k l
theorem step2{D:Nat}{x:VV}(h:VR w B g m n R S)(z:j<m)(p:R b j=some r)(hf:Fr (λq=>q=D\/q=r) w w')(E:∀b,g b≠D)(F:∀b j r,j<m->R b j=some r->r≠D)(I:w'.rowIs r 9 n (λq=>.string (x q)))(H:∀q,smS (x q)):VR w' B g m n R (updV S b j x):=by
 have l:∃u,S b j=some u:=by
  cases G:S b j with
  |none=>have:=(h.non b j z).2 G;rw[p]at this;cases this
  |some u=>exact⟨u,rfl⟩
 obtain⟨u,l⟩:=l;refine⟨λc=>hf.row (h.top c) (λe=>e.elim (E c) (h.topne z p l)),h.gne,h.low,λc k d=>?_,λc k A C d i o=>?_,h.sep,λc k C i=>?_⟩
 ·unfold updV;by_cases e:c=b/\k=j
  ·obtain⟨rfl,rfl⟩:=e;rw[ifp ⟨rfl,rfl⟩,p];simp
  rw[ifn e];exact h.non c k d
 ·unfold updV at o;by_cases e:c=b/\k=j
  ·obtain⟨rfl,rfl⟩:=e;rw[ifp ⟨rfl,rfl⟩]at o;cases o;rw[p]at i;cases i;exact⟨I,(h.row c k r u z p l).2⟩
  rw[ifn e]at o;refine⟨hf.row (h.row c k A C d i o).1 (λs=>?_),(h.row c k A C d i o).2⟩
  rcases s with s|s
  ·exact F c k A d i s
  subst s;exact e<|h.sep c k b j A d z i p
 unfold updV at i;by_cases e:c=b/\k=j
 ·rw[ifp e]at i;cases i;exact H
 rw[ifn e]at i;exact h.sm c k C i
theorem same(h:VR w B g m n R S)(b:Bool):VR (w.setCell (Ad (g b) j) (vrV n (R b j))) B g m n R S:=by
 have hf:Fr (λq=>q=g b) w (w.setCell (Ad (g b) j) (vrV n (R b j))):=(Fr.refl (λq=>q=g b) w).set (p:=(Ad (g b) j)) (.inl rfl) _;refine⟨λc=>?_,h.gne,h.low,h.non,λc o s u d k l=>⟨hf.row (h.row c o s u d k l).1 (λe=>Iq (h.top b) (h.row c o s u d k l).1 (by decide) e.symm),(h.row c o s u d k l).2⟩,h.sep,h.sm⟩;by_cases e:c=b
 ·subst e;exact((h.top c).set j _).congr (λi _=>by
   by_cases e:i=j
   ·subst e;rw[ifp rfl]
   rw[ifn e])
 refine hf.row (h.top c) (λz=>?_);have A:=h.gne;cases c<;>cases b<;>first|exact e rfl|exact A z|exact A z.symm
end VR
structure VR1(w:World)(B g m n:Nat)(R:Nat->Option Nat)(S:Nat->Option VV):Prop where
 top:w.rowIs g 102 m (λj=>vrV n (R j))
 low:B<=g
 non:∀j,j<m->(R j=none↔S j=none)
 row:∀j r x,j<m->R j=some r->S j=some x->w.rowIs r 9 n (λq=>.string (x q))/\B<=r
 sep:∀j j' r,j<m->j' < m->R j=some r->R j'=some r->j=j'
 sm:∀j x,S j=some x->∀q,smS (x q)
theorem VR.one{g:Bool->Nat}{R:Bool->Nat->Option Nat}{S:Bool->Nat->Option VV}(h:VR w B g m n R S)(b:Bool):VR1 w B (g b) m n (R b) (S b) :=
 ⟨h.top b,h.low b,h.non b,h.row b,λj l r c d i k=>(h.sep b j b l r c d i k).2,h.sm b⟩
theorem VR1.kept{R:Nat->Option Nat}{S:Nat->Option VV}(h:VR1 w B g m n R S)(hf:Fr (λ_=>False) w k):VR1 k B g m n R S :=
 ⟨hf.row h.top (λe=>e),h.low,h.non,λj r x i c d=>⟨hf.row (h.row j r x i c d).1 (λe=>e),(h.row j r x i c d).2⟩,h.sep,h.sm⟩
theorem VR1.two{o:World}{R:Nat->Option Nat}{S:Nat->Option VV}(h:VR1 w B g m n R S)(hf:Fr (λ_=>False) w o)(D:w.heap.size<=d)(C:B<=w.heap.size)(u:o.rowIs d 102 m (λ_=>.slice none 0 0)):
  VR o B (λb=>if b then d else g) m n (λb=>if b then λ_=>none else R) (twoR S (λ_=>none)):=by
 have p:=h.kept hf;have z:=h.top.lt;refine⟨λb=>?_,?_,λb=>?_,λb j i=>?_,λb j r x i c k=>?_,λb j s A r i l c k=>?_,λb j x c=>?_⟩
 ·cases b
  ·exact p.top
  exact u
 ·show g≠d;omega
 ·cases b
  ·exact h.low
  show B<=d;omega
 ·cases b
  ·exact h.non j i
  exact⟨λ_=>rfl,λ_=>rfl⟩
 ·cases b
  ·exact p.row j r x i c k
  cases c
 ·cases b<;>cases s
  ·exact⟨rfl,h.sep j A r i l c k⟩
  ·cases k
  ·cases c
  cases c
 cases b
 ·exact h.sm j x c
 cases c
end
end Go.Proofs.YteappjogmnogcaaGreatDoor
