/- Parts. -/
import Derived.Test.YteappjogmnogcaaGreatDoorZ16
namespace Go.Proofs.YteappjogmnogcaaGreatDoor
set_option maxRecDepth 100000
set_option linter.all false
set_option maxHeartbeats 16000000
open Go Tryz
section
open Go.RowKit Go.Deep
variable{g w:World}{D:MD}{v:Nat->ByteArray}{c i vb:Nat}{sv:Value}
def Fr.gbc{d:World}(h:Fr (λq=>q=c) w d):w.grownBy d (some c):=(h.mono (C':=λq=>some c=some q) (λq _ e=>by rw[e])).gb
structure RsI(w wr:World)(cb vb lb:Nat)(D:MD)(sv stv:Value)(v:Nat->ByteArray)(s:WS):Prop where
 sc:Scl wr cb D sv stv s.2
 rl:wr.rowIs lb 9 D.n (λj=>.string (s.1 j))
 rv:wr.rowIs vb 9 D.n (λj=>.string (v j))
 fr:Fr (λq=>q=cb) w wr
 lw:w.heap.size<=lb
 vl:vb≠lb
 vc:vb≠cb
 cl:cb≠lb
def RsI.stepped{wr:World}{d:Nat}{c:Value}{s:WS}(h:RsI w wr d vb i D sv c v s){e':Nat}(hf:Fr (λq=>q=d) wr g)(j:Scl g d D sv c e'):RsI w g d vb i D sv c v (s.1,e') :=
 ⟨j,hf.row h.rl (λe=>h.cl e.symm),hf.row h.rv h.vc,h.fr.trans hf,h.lw,h.vl,h.vc,h.cl⟩
theorem RsI.put{d:Value}{s:WS}(h:RsI w g i vb c D sv d v s)(p:Nat)(x:ByteArray):RsI w (g.setCell (Ad c p) (.string x)) i vb c D sv d v (updS s.1 p x,s.2):=by
 have hf:Fr (λq=>q=c) g (g.setCell (Ad c p) (.string x)):=(Fr.refl (λq=>q=c) _).set (p:=(Ad c p)) (.inl rfl) _;refine⟨h.sc.kept hf h.cl,(h.rl.set p (.string x)).congr (λj _=>?_),hf.row h.rv h.vl,h.fr.set (p:=(Ad c p)) (.inr h.lw) _,h.lw,h.vl,h.vc,h.cl⟩;show _=Value.string (updS s.1 p x j);unfold updS;by_cases e:j=p
 ·rw[ifp e,ifp e]
 rw[ifn e,ifn e]
theorem z0q{s rb:Nat}{a:Option Addr}{cap:Nat}{a4:Value}{st:StarO}{e:Nat}(w:World)(hV:VM D)(H:Scl w s D (.slice a D.n cap) a4 e)(e1:StV w a4 D.n st)(hv:w.rowIs rb 9 D.n (λq=>.string (v q)))(Q:∀q,smS (v q))(w0:World)(X:Below w0.heap.size w0 w)(a9:w0.heap.size<=s)(ht:Tab w0):
  Calls prog 83 #[.pointer (some (Ad s 0)),.slice (some (Ad rb 0)) D.n D.n] w (RstE s rb D (.slice a D.n cap) a4 st v e w):=by
 have k4:=H.c4;have k5:=H.c5;replace H:=qh H;replace hv:=qh hv;cases st with
 |none =>
  have f2:a4=.slice none 0 0:=e1;subst f2;have hq:=λw=>Ed 75 79 underlying75 w none 0 0;rw[show (none:Option Addr).isNone=true from rfl]at hq
  go_enter func83,ntmps83
  go_wp2;go_ret;exact⟨rb,rfl,hv.o,H.o,.inl rfl,Fr.refl _ _⟩
 |some S =>
  obtain⟨a1,b5⟩:=e1;obtain⟨sa,sc,sb,so,A,C,B,O,rfl,ha,_,_,_,_⟩:=a1.open;have e9:=hV.n1;have f0:=hV.n2;obtain rfl:=ha (by omega);clear ha;have hq:=λw=>Ed 75 79 underlying75 w (some (Ad sb so)) D.n sc;rw[show (some ((Ad sb so):Addr)).isNone=false from rfl]at hq;by_cases he:e=0
  rotate_left
  ·have f7:¬((e:Int)=0):=by omega
   have F:Cy D.kind D.n (some S) v e=(v,e):=ifp he;have u:=qh F;clear F
   go_enter func83,ntmps83
   go_wp2;go_ret;exact⟨rb,rfl,by rw[u.o];exact hv.o,by rw[u.o];exact H.o,.inl rfl,Fr.refl _ _⟩
  subst he;obtain⟨kz,Z⟩:=exq<|Af D.kind;have F:Cy D.kind D.n (some S) v 0=rstQ D.kind S v D.n D.n (Ax,0):=by show (if (0:Nat)≠0 then (v,0) else rstQ D.kind S v D.n D.n (Ax,0))=_;rw[ifn (by decide)]
  have u:=qh F;clear F;replace Z:=qh Z;have c8:=qh<|IR w H.o e9 f0;replace a1:=qh a1;replace b5:=qh b5;replace Q:=qh Q;replace ht:=qh ht;replace X:=qh X;replace a9:=qh a9;replace hV:=qh hV
  go_enter func83,ntmps83
  go_wp2_with fail
  refine c8.o.mono ?_;rintro r w1⟨rfl,b4,Y,f3⟩;obtain⟨R,b0⟩:=exq<|w.heap.size;rw[<-b0]at b4;rw[<-b0];have a5:Fr (λq=>q=s) w w1:=Y.mono<|λ_ _ e=>e.elim;have d:=qh (show RsI w w1 s rb R D (.slice a D.n cap) (.slice (some (Ad sb so)) D.n sc) v (Ax,0) from
   ⟨H.o.kept Y (λe=>e),b4,Y.row hv.o (λe=>e),a5,by omega,by have:=hv.o.lt;omega,AA hv.o (show w.heap[s]?=_ from H.o) (by decide),by have:=H.o.lt;omega⟩)
  have e8:w.heap.size<=R:=by omega
  clear b4 Y a5 f3 b0 c8 k4 k5 hq
  go_wp2_with fail
  go_loopw [27] (λb9 wr=>∃q:Nat,q<=D.n/\b9=.int .i64 (q:Int)/\RsI w wr s rb R D (.slice a D.n cap) (.slice (some (Ad sb so)) D.n sc) v (rstQ D.kind S v D.n q (Ax,0))) (λb9 _=>D.n-(intOf b9).toNat)
  case atStart=>exact⟨0,Nat.zero_le _,rfl,d.o⟩
  obtain⟨q,hq,rfl,hi⟩:=hrel;clear d;have d:=qh hi;clear hi;by_cases b1:q<D.n
  ·have f9:(q:Int)<(D.n:Int):=by omega
   have f5:(0:Int)<=(q:Int):=by omega
   have cv:=d.o.rv.cell b1;obtain⟨g,P⟩:=exq<|v q;have m:smS g:=by rw[P];exact Q.o q
   rw[<-P]at cv;obtain⟨s0,a2⟩:=exq<|rstQ D.kind S v D.n q (Ax,0);have I:∀j,smS (s0.1 j):=by rw[a2];exact KW Q.o q Gc
   have b2:rstQ D.kind S v D.n (q+1) (Ax,0)=rstP D.kind S v q D.n s0:=by rw[a2];rfl
   rw[<-a2]at d;replace b2:=qh b2;clear a2;replace I:=qh I;replace P:=qh P;replace m:=qh m
   go_wp2_with fail
   clear cv
   go_loopw [34] (λc7 wr=>∃p:Nat,p<=D.n/\c7=.int .i64 (p:Int)/\RsI w wr s rb R D (.slice a D.n cap) (.slice (some (Ad sb so)) D.n sc) v (rstP D.kind S v q p s0)) (λc7 _=>D.n-(intOf c7).toNat)
   case atStart=>exact⟨0,Nat.zero_le _,rfl,d.o⟩
   obtain⟨p,hp,rfl,hi⟩:=hrel;clear d;obtain⟨s1,k⟩:=exq<|rstP D.kind S v q p s0;rw[<-k]at hi;have J:∀j,smS (s1.1 j):=by rw[k];exact KV (Q.o q) p I.o
   replace J:=qh J;by_cases G:p<D.n
   ·have f8:(p:Int)<(D.n:Int):=by omega
    have f4:(0:Int)<=(p:Int):=by omega
    obtain⟨g0,g2,g1,g3,A,C,B,O,f1,e5,_,_,_,a6⟩:=(a1.o.later H.o hi.sc hi.fr.gbc (.inl rfl) (λi _=>by omega)).open;have e6:=e5 (by omega);cases f1;cases e6;obtain⟨t0,t1,t2,t3,t4,t5,t6⟩:=a6 q b1;have t7:=t6 p G;clear a6;obtain T:=t3 (by omega);rw[T]at t0;clear t1 t2 t3 t4 t5 t6 T;have c1:=hi.sc.c4;have c0:=hi.sc.c0;obtain⟨x,hx⟩:=exq<|S q p;rw[<-hx]at t7;have b7:smS x:=by rw[hx];exact b5.o q p b1 G
    replace b7:=qh b7;have L:rstP D.kind S v q (p+1) s0=if g=⟨#[]⟩\/x=kz then s1 else (updS s1.1 p (AN D.kind (s1.1 p) (AQ D.kind g x s1.2).1 (AQ D.kind g x s1.2).2).1,(AN D.kind (s1.1 p) (AQ D.kind g x s1.2).1 (AQ D.kind g x s1.2).2).2):=by
     rw[k,hx,P.o,Z.o];rfl
    have o:=qh L;clear L k hx;have d:=qh hi;clear hi;cases hO:(g.toList==[])
    ·have b6:g≠⟨#[]⟩:=λe=>by rw[e]at hO;simp at hO
     have b8:=Gy D.kind wr;rw[<-Z.o]at b8;have d1:=qh b8;clear b8
     go_wp2_with fail
     refine d1.o.mono ?_;rintro r w2⟨rfl,a8⟩;have d3:Fr (λq=>q=s) wr w2:=Fr.of_below a8;have U:=qh (d.o.stepped d3 (by unfold Scl;rw[a8.block s d.o.sc.lt];exact d.o.sc));clear t0 t7 c0 c1 d d3 a8 d1;cases hX:(x.toList==kz.toList)
     ·have d7:¬(g=⟨#[]⟩\/x=kz):=λh=>h.elim b6 (λe=>by rw[e]at hX;simp at hX);have HN:=qh<|o.o.trans (ifn d7);clear d7 b6 o;obtain⟨wd,a3⟩:=exq<|w2.drew;have d6:Fr (λq=>q=s) w2 wd:=by rw[a3];exact(Fr.refl _ _).drew
      have E:=qh (U.o.stepped d6 (by rw[a3];exact U.o.sc));clear d6 U;have c:wd.cell? (Ad R p)=some (.string (s1.1 p)):=E.o.rl.cell G;have l:∀wz,Fr (λq=>q=s) w wz->Tab wz:=λwz hf=>ht.o.below (X.o.trans (hf.below X.o.size (λq e=>by rw[e];exact a9.o))) nlr;replace l:=qh l;have d0:=qh<|LG g x wd E.o.sc m.o b7.o (l.o _ E.o.fr);have N:smS (AQ D.kind g x s1.2).1:=FB m.o;replace N:=qh N
      go_wp2_with fail
      refine Au (λwk=>wk.cell? (Ad R p)=some (.string (s1.1 p))) 13 (by kernel_rfl) ?_;rw[<-a3];clear a3;refine Aa.tm 0 c ?_;refine Aa.tm 1 c ?_;refine Aa.tm 2 c ?_;refine Aa.tm 3 c ?_;refine Aa.tm 4 c ?_;refine Aa.tm 5 c ?_;refine Aa.tm 6 c ?_;refine Aa.tm 7 c ?_;refine Aa.tm 8 c ?_;refine Aa.tm 9 c ?_
      try simp only[Act.put,tryL]
      refine Aa.on 10 λK hK=>?_;go_simp;refine d0.o.mono ?_;rintro r w3⟨rfl,d9,d4⟩;have z:=qh<|E.o.stepped d4 d9;have d2:w3.cell? (Ad R p)=some (.string (s1.1 p)):=z.o.rl.cell G;have c9:=qh<|IV (s1.1 p) (AQ D.kind g x s1.2).1 w3 z.o.sc (J.o p) N.o (l.o _ z.o.fr);refine hK.out _ _ (.inr d2) ?_;clear hK K c d0 E d9 d4
      try simp only[Act.put,tryL]
      refine Aa.on 11 λK hK=>?_;go_simp;refine c9.o.mono ?_;rintro r w4⟨rfl,e0,d5⟩;have W:=qh<|z.o.stepped d5 e0;have a7:w4.cell? (Ad R p)=some (.string (s1.1 p)):=W.o.rl.cell G;have fz:=W.o.rl.frozen p;refine hK.out _ _ (.inr a7) ?_;clear hK K d2 c9 z e0 d5
      try simp only[Act.put,tryL]
      refine Aa.tm 12 a7 ?_
      try simp only[Act.put,tryL]
      refine Aa.on 13 λK hK=>?_;go_simp;refine hK.out _ _ (.inl rfl) (Aa.dn ?_);clear hK K a7;have e4:=qh<|W.o.put p (AN D.kind (s1.1 p) (AQ D.kind g x s1.2).1 (AQ D.kind g x s1.2).2).1;clear W fz;go_wp2;go_roundw
      case rel=>exact⟨p+1,by omega,by go_num,by rw[HN.o];exact e4.o⟩
      simp[intOf];omega
     have e3:x=kz:=toList_eq hX;have HN:=qh<|o.o.trans (ifp (.inr e3));clear e3 b6 o;go_wp2;go_roundw
     case rel=>exact⟨p+1,by omega,by go_num,by rw[HN.o];exact U.o⟩
     simp[intOf];omega
    have e2:g=⟨#[]⟩:=Ec hO;have HN:=qh<|o.o.trans (ifp (.inl e2));clear e2 o;go_wp2;go_roundw
    case rel=>exact⟨p+1,by omega,by go_num,by rw[HN.o];exact d.o⟩
    simp[intOf];omega
   have d8:p=D.n:=by omega
   have e7:¬((p:Int)<(D.n:Int)):=by omega
   rw[d8]at k;have HN:=qh<|b2.o.trans k.symm;clear k d8;have d:=qh hi;clear hi;go_wp2;go_roundw
   case rel=>exact⟨q+1,by omega,by go_num,by rw[HN.o];exact d.o⟩
   simp[intOf];omega
  have b3:q=D.n:=by omega
  have e7:¬((q:Int)<(D.n:Int)):=by omega
  replace b3:=qh b3;go_wp2;go_ret;have h1:=d.o.rl;have h2:=d.o.sc;rw[b3.o]at h1 h2;exact⟨R,rfl,by rw[u.o];exact h1,by rw[u.o];exact h2,.inr e8,d.o.fr⟩
end
section
open Go.RowKit Go.Deep
variable{a:Act}{w:World}{v:Value}{g i:Nat}
section
variable{P:Program}{ops:Array Oper}{Q:Exit->Act->World->Prop}{S:World->Prop}{s:List Nat}
def AnyL(P:Program)(ops:Array Oper)(Q:Exit->Act->World->Prop)(S:World->Prop)(s:List Nat):Nat->Array Bool->Act->World->Prop
 |0,listed,a,w=>Region.ready .any ops listed=[]/\Q .normal a w
 |fuel+1,listed,a,w=>(Region.ready .any ops listed=[]->Q .normal a w)/\
  ∀i ∈ Region.ready .any ops listed,wpOp P ops Q i (λa' w'=>(i ∈ s\/S w')/\AnyL P ops Q S s fuel (listed.setIfInBounds i true) a' w') a w
theorem AnyL.any:∀(fuel:Nat) (listed:Array Bool) (a:Act) (w:World),AnyL P ops Q S s fuel listed a w->wpAny P .any ops Q fuel listed a w
 |0,_,_,_,h=>h
 |fuel+1,_,_,_,h=>⟨h.1,λi hi=>wpOp_mono (λa' w' h'=>AnyL.any fuel _ a' w' h'.2) (h.2 i hi)⟩
def AnyL.first{G:Oper}(hi:ops[i]?=some G)(C:∀(j:Nat) (o:Oper) cs b,ops[j]?=some o->o.op≠.select cs b)
  (hQ:∀c a w,Q (.panic c) (a.put G.dst v) w->Q (.panic c) a w) :
  ∀(g:Nat) (d:Array Bool) (a:Act) (w:World),(∀x ∈ s,d.getD x false=true\/waits ops ops.size x i=true) ->
   (∀j oj,ops[j]?=some oj->j≠i->d.getD j true=false->(∀e ∈ oj.after,Region.binds .any e=true->e.on≠i)->G.apart ops oj=true) ->
   i ∈ Region.ready .any ops d->Closed ops d->YieldsIf P ops S G v a->S w ->
   AnyL P ops Q S s g (d.setIfInBounds i true) (a.put G.dst v) w->AnyL P ops Q S s (g+1) d a w:=by
 intro g
 induction g with
 |zero =>
  intro d a w hw _ F E U I H;refine⟨λh=>(by rw[h]at F;cases F),λj K=>?_⟩;by_cases l:j=i
  ·subst l;exact U.wpOp hi I ⟨.inr I,H⟩
  have:=ready_mono K l;rw[H.1]at this;cases this
 |succ g ih =>
  intro d a w hw p F E U I H;refine⟨λh=>(by rw[h]at F;cases F),λj K=>?_⟩;by_cases l:j=i
  ·subst l;exact U.wpOp hi I ⟨.inr I,H⟩
  have T:=H.2 j (ready_mono K l);obtain⟨m,oj,A,B⟩:=mem_ready.1 K;have u:d.getD i false=false:=by
   have h0:=(mem_ready.1 F).1
   rcases Nat.lt_or_ge i d.size with D|D
   ·simp[D]at h0 ⊢;exact h0
   simp[Array.getElem?_eq_none D]
  have N:∀e ∈ oj.after,Region.binds .any e=true->e.on≠i:=λe X hb Y=>by
   have T:=B e X hb;rw[Y,u]at T;cases T
  have a1:j ∉ s:=λe=>by
   have Z:d.getD j false=false:=by
    rcases Nat.lt_or_ge j d.size with D|D
    ·simp[D]at m ⊢;exact m
    simp[Array.getElem?_eq_none D]
   have a4:waits ops ops.size j i=true:=(hw j e).resolve_left (by rw[Z];simp);have:=Rt E _ _ a4 (λo' O e X hb=>by rw[A]at O;cases O;exact B e X hb);rw[u]at this;cases this
  have h2:=wpOp_putIf A (p j oj A l m N) (λcs b=>C i G cs b hi) (λcs b=>C j oj cs b A) hQ U T;have z:∀k ok,ops[k]?=some ok->k≠i->(d.setIfInBounds j true).getD k true=false ->
    (∀e ∈ ok.after,Region.binds .any e=true->e.on≠i)->G.apart ops ok=true:=λk ok hk a2 R a3=>by
   refine p k ok hk a2 ?_ a3;by_cases L:j=k
   ·subst L;exact m
   rw[getD_set_ne true L]at R;exact R
  refine wpOp_mono (λa' w' W=>?_) h2;have J:S w':=W.2.1.resolve_left a1;refine⟨.inr J,ih (d.setIfInBounds j true) a' w' (λx hx=>(hw x hx).imp (λh=>getD_set_true h) id) z (ready_mono F (Ne.symm l)) (E.set K) W.1 J ?_⟩;rw[Array.setIfInBounds_comm _ _ l];exact W.2.2
def AnyL.firstP{E:Oper}(G:i ∈ s)(hi:ops[i]?=some E)(z:∀(j:Nat) (o:Oper) cs b,ops[j]?=some o->o.op≠.select cs b)
  (hQ:∀c a w,Q (.panic c) (a.put E.dst v) w->Q (.panic c) a w) :
  ∀(g:Nat) (d:Array Bool) (a:Act) (w:World),
   (∀j oj,ops[j]?=some oj->j≠i->d.getD j true=false->(∀e ∈ oj.after,Region.binds .any e=true->e.on≠i)->E.apart ops oj=true) ->
   i ∈ Region.ready .any ops d->YieldsIf P ops (λ_=>True) E v a ->
   AnyL P ops Q S s g (d.setIfInBounds i true) (a.put E.dst v) w->AnyL P ops Q S s (g+1) d a w:=by
 intro g
 induction g with
 |zero =>
  intro d a w _ D O H;refine⟨λh=>(by rw[h]at D;cases D),λj N=>?_⟩;by_cases l:j=i
  ·subst l;exact O.wpOp hi trivial ⟨.inl G,H⟩
  have:=ready_mono N l;rw[H.1]at this;cases this
 |succ g ih =>
  intro d a w m D O H;refine⟨λh=>(by rw[h]at D;cases D),λj N=>?_⟩;by_cases l:j=i
  ·subst l;exact O.wpOp hi trivial ⟨.inl G,H⟩
  have L:=H.2 j (ready_mono N l);obtain⟨u,oj,B,F⟩:=mem_ready.1 N;have C:d.getD i false=false:=by
   have Y:=(mem_ready.1 D).1
   rcases Nat.lt_or_ge i d.size with R|R
   ·simp[R]at Y ⊢;exact Y
   simp[Array.getElem?_eq_none R]
  have J:∀e ∈ oj.after,Region.binds .any e=true->e.on≠i:=λe he hb U=>by
   have L:=F e he hb;rw[U,C]at L;cases L
  have h2:=wpOp_putIf B (m j oj B l u J) (λcs b=>z i E cs b hi) (λcs b=>z j oj cs b B) hQ O L;have p:∀k ok,ops[k]?=some ok->k≠i->(d.setIfInBounds j true).getD k true=false ->
    (∀e ∈ ok.after,Region.binds .any e=true->e.on≠i)->E.apart ops ok=true:=λk ok hk W K X=>by
   refine m k ok hk W ?_ X;by_cases I:j=k
   ·subst I;exact u
   rw[getD_set_ne true I]at K;exact K
  refine wpOp_mono (λZ w' T=>?_) h2;refine⟨T.2.1,ih (d.setIfInBounds j true) Z w' p (ready_mono D (Ne.symm l)) T.1 ?_⟩;rw[Array.setIfInBounds_comm _ _ l];exact T.2.2
def tpBL(ops:Array Oper)(s:List Nat)(i:Nat)(listed:Array Bool):Bool:=s.contains i&&Region.noSelect ops&&Region.free .any ops listed i&&(Region.ready .any ops listed).contains i
def AnyL.tp{j:Oper}{d:Array Bool}(hi:ops[i]?=some j)(hb:tpBL ops s i d=true)(k:YieldsIf P ops (λ_=>True) j v a)
  (h:AnyL P ops Q S s g (d.setIfInBounds i true) (a.put j.dst v) w) (hQ:∀c a w,Q (.panic c) (a.put j.dst v) w->Q (.panic c) a w:=by exact λ_ _ _ h=>h):AnyL P ops Q S s (g+1) d a w:=by
 unfold tpBL at hb;simp only[Bool.and_eq_true]at hb;exact AnyL.firstP (by simpa using hb.1.1.1) hi (Region.noSelect_spec hb.1.1.2) hQ g d a w (Region.free_spec hi hb.1.2) (by simpa using hb.2) k h
def AnyL.take{j:Oper}{d:Array Bool}(hi:ops[i]?=some j)(p:(s.all λx=>d.getD x false||waits ops ops.size x i)=true)(k:FL ops d=true)
  (o:Region.noSelect ops=true) (hf:Region.free .any ops d i=true) (m:(Region.ready .any ops d).contains i=true)
  (hQ:∀c a w,Q (.panic c) (a.put j.dst v) w->Q (.panic c) a w) (l:S w) (z:YieldsIf P ops S j v a)
  (h:AnyL P ops Q S s g (d.setIfInBounds i true) (a.put j.dst v) w):AnyL P ops Q S s (g+1) d a w :=
 AnyL.first hi (Region.noSelect_spec o) hQ g d a w (λx u=>by simpa using List.all_eq_true.1 p x u) (Region.free_spec hi hf) (by simpa using m) (ME k) z l h
def tkBL(ops:Array Oper)(s:List Nat)(i:Nat)(listed:Array Bool):Bool:=(s.all λx=>listed.getD x false||waits ops ops.size x i)&&FL ops listed&&Region.noSelect ops&&Region.free .any ops listed i&&(Region.ready .any ops listed).contains i
def AnyL.tk{j:Oper}{d:Array Bool}(hi:ops[i]?=some j)(hb:tkBL ops s i d=true)(k:S w)(l:YieldsIf P ops S j v a)
  (h:AnyL P ops Q S s g (d.setIfInBounds i true) (a.put j.dst v) w) (hQ:∀c a w,Q (.panic c) (a.put j.dst v) w->Q (.panic c) a w:=by exact λ_ _ _ h=>h):AnyL P ops Q S s (g+1) d a w:=by
 unfold tkBL at hb;simp only[Bool.and_eq_true]at hb;exact AnyL.take hi hb.1.1.1.1 hb.1.1.1.2 hb.1.1.2 hb.1.2 hb.2 hQ k l h
def AnyL.one{o:Oper}{d:Nat}{c:Array Bool}(A:ops[i]?=some o)(m:Region.ready .any ops c=[i])(g:Region.wanted o (yielded ops a.tmps)=true)
  (h:∀K:Act->World->Prop,Shut (∀a w,(i ∈ s\/S w)->AnyL P ops Q S s d (c.setIfInBounds i true) a w->K a w)->Oper.wp P o a w K Q):AnyL P ops Q S s (d+1) c a w:=by
 refine⟨λk=>(by rw[m]at k;cases k),λj l=>?_⟩;rw[m]at l;obtain rfl:j=i:=by simpa using l
 exact wpOp_step A (λK p=>by rw[ifp g];exact h K (λa w u z=>p a w ⟨u,z⟩))
def AnyL.tm(i:Nat){j:Oper}{d:Array Bool}(k:S w)
  (h:AnyL P ops Q S s g (d.setIfInBounds i true) (a.put j.dst v) w) (hi:ops[i]?=some j:=by rfl) (hb:tkBL ops s i d=true:=by kernel_rfl) (l:Region.wanted j (yielded ops a.tmps)=true:=by kernel_rfl)
  (m:∀w,S w->(execOp a.eval j).run P w=.ok (.value v) w:=by (intro w h;go_simp;try with_reducible rfl)) (hQ:∀c a w,Q (.panic c) (a.put j.dst v) w->Q (.panic c) a w:=by exact λ_ _ _ h=>h):AnyL P ops Q S s (g+1) d a w:=AnyL.tk hi hb k (.inl ⟨l,m⟩) h hQ
def AnyL.tq(i:Nat){j:Oper}{d:Array Bool}
  (h:AnyL P ops Q S s g (d.setIfInBounds i true) (a.put j.dst v) w) (hi:ops[i]?=some j:=by rfl) (hb:tpBL ops s i d=true:=by kernel_rfl) (k:Region.wanted j (yielded ops a.tmps)=true:=by kernel_rfl)
  (l:∀w,True->(execOp a.eval j).run P w=.ok (.value v) w:=by (intro w h;go_simp;try with_reducible rfl)) (hQ:∀c a w,Q (.panic c) (a.put j.dst v) w->Q (.panic c) a w:=by exact λ_ _ _ h=>h):AnyL P ops Q S s (g+1) d a w:=AnyL.tp hi hb (.inl ⟨k,l⟩) h hQ
def AnyL.on(i:Nat){o:Oper}{d:Nat}{c:Array Bool}(h:∀K:Act->World->Prop,Shut (∀a w,(i ∈ s\/S w)->AnyL P ops Q S s d (c.setIfInBounds i true) a w->K a w)->Oper.wp P o a w K Q)
  (j:ops[i]?=some o:=by rfl) (k:Region.ready .any ops c=[i]:=by kernel_rfl) (g:Region.wanted o (yielded ops a.tmps)=true:=by rfl):AnyL P ops Q S s (d+1) c a w:=AnyL.one j k g h
def AnyL.done{listed:Array Bool}(hr:Region.ready .any ops listed=[])(h:Q .normal a w):∀fuel,AnyL P ops Q S s fuel listed a w
 |0=>⟨hr,h⟩
 |_+1=>⟨λ_=>h,by rw[hr];simp⟩
theorem AnyL.dn{c:Array Bool}{d:Nat}(h:Q .normal a w)(g:Region.ready .any ops c=[]:=by kernel_rfl):AnyL P ops Q S s d c a w:=AnyL.done g h d
theorem AnyL.loose{late:List Nat}:∀{fuel:Nat} {listed:Array Bool} {a:Act} {w:World},(∀i,i<listed.size->listed.getD i true=false->i ∈ late)->AnyL P ops Q (λ_=>True) [] fuel listed a w->AnyL P ops Q S late fuel listed a w
 |0,_,_,_,_,h=>h
 |fuel+1,listed,a,w,hl,h=>by
  refine⟨h.1,λi hi=>wpOp_mono (λa' w' h'=>⟨.inl ?_,AnyL.loose (λj hj hf=>?_) h'.2⟩) (h.2 i hi)⟩
  ·obtain⟨h1,_⟩:=mem_ready.1 hi;refine hl i ?_ h1
   rcases Nat.lt_or_ge i listed.size with h' |h'
   ·exact h'
   simp[Array.getD,Nat.not_lt.2 h']at h1
  refine hl j (by simpa using hj) ?_;by_cases e:i=j
  ·subst e;have hj':i<listed.size:=by simpa using hj
   simp[Array.getD,hj']at hf
  rwa [getD_set_ne true e]at hf
def VE(late:List Nat)(listed:Array Bool):Bool:=(List.range listed.size).all λi=>listed.getD i true||late.contains i
def AnyL.loose'{g:List Nat}{d:Nat}{c:Array Bool}(h:VE g c=true)(j:AnyL P ops Q (λ_=>True) [] d c a w):AnyL P ops Q S g d c a w :=
 AnyL.loose (λi hi hf=>by
  have:=List.all_eq_true.1 h i (List.mem_range.2 hi);rw[hf]at this;simpa using this) j
def Io(S:World->Prop)(s:List Nat){d:Nat}(c:P.follows .mixedOrders=true)
  (h:AnyL P ops Q S s ops.size (Array.replicate ops.size false) a w.drew):(Code.region d ops true).wp P Q a w :=
 wp_region_any c (AnyL.any _ _ _ _ h)
end
end
end Go.Proofs.YteappjogmnogcaaGreatDoor
