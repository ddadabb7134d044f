/- Parts of a proof: EdT EdD. -/
import Derived.Test.YtjekapjbigfkbaaGreatDoorT10
import Derived.Test.YtjekapjbigfkbaaGreatDoorT09
import Derived.Deep.AppendLies
namespace Go.Proofs.YtjekapjbigfkbaaGreatDoor
set_option maxRecDepth 100000
set_option linter.unusedSimpArgs false
set_option linter.unusedVariables false
set_option linter.unusedSectionVars false
set_option maxHeartbeats 16000000
open Go Tryz
section
open Go.RowKit Go.Deep Go.Shelf
attribute [local go_sem] Oper.semAt_some
structure StW (w0 wa:World) (tB pB k i j B tb g cap n1 n2 n3:Nat) (r:Nat->Nat) (s:Nat->Nat->Nat) (ev xv yv:Value) (mo:Int) (z:(Nat->Nat->Nat->ByteArray) × Nat) (w:World):Prop where
 cu:Cu w B g cap n1 n2 n3 r s z.1
 tm:TbM w tb g cap n1 n2 n3 ev xv yv mo z.2
 bt:Bx w tB 62 (.pointer (some ⟨tb,0,none⟩))
 bp:w.heap[pB]?=some (.cells #[.int .i64 (k:Int),.int .i64 (i:Int),.int .i64 (j:Int)] 70 (0,0))
 be:Below w0.heap.size w0 w
 fr:Fr (TbB tb n1 n2 s) wa w
section
variable {w0 wa w w':World} {tB pB k i j B tb g cap n1 n2 n3:Nat} {r:Nat->Nat} {s:Nat->Nat->Nat} {ev xv yv:Value} {mo:Int} {z z':(Nat->Nat->Nat->ByteArray) × Nat}
theorem StW.new (h:StW w0 wa tB pB k i j B tb g cap n1 n2 n3 r s ev xv yv mo z w) (c:Fr (fun _=>False) w w'):StW w0 wa tB pB k i j B tb g cap n1 n2 n3 r s ev xv yv mo z w' :=
 ⟨h.cu.new c,h.tm.kept c (fun e=>e),h.bt.kept c (fun e=>e),(c.block pB (lt_of_block h.bp) (fun e=>e)).trans h.bp,h.be.trans (c.below h.be.size (fun _ e=>e.elim)),h.fr.trans (c.mono (fun _ _ e=>e.elim))⟩
theorem StW.far (h:StW w0 wa tB pB k i j B tb g cap n1 n2 n3 r s ev xv yv mo z w) {q:Nat} (p:TbB tb n1 n2 s q):q≠tB/\q≠pB:=by
 rcases p with rfl|⟨u,l,o,hi,rfl⟩
 ·refine⟨fun e=>?_,fun e=>?_⟩
  ·have c:=h.tm.blk;have d:=h.bt;unfold Bx at d;rw[e,d] at c;simp at c
  have c:=h.tm.blk;have d:=h.bp;rw[e,d] at c;simp at c
 have c:=(h.cu.row u l o hi).1;exact⟨fun e=>z0e c h.bt (by decide) e,fun e=>z0e c h.bp (by decide) e⟩
theorem StW.rea (h:StW w0 wa tB pB k i j B tb g cap n1 n2 n3 r s ev xv yv mo z w) {o:Ending} (c:ReaE B tb g cap n1 n2 n3 r s ev xv yv mo z' w o w') (p:w0.heap.size<=B) (v:w0.heap.size<=tb):StW w0 wa tB pB k i j B tb g cap n1 n2 n3 r s ev xv yv mo z' w':=by
 refine⟨c.2.1,c.2.2.1,h.bt.kept c.2.2.2 (fun e=>(h.far e).1 rfl),(c.2.2.2.block pB (lt_of_block h.bp) (fun e=>(h.far e).2 rfl)).trans h.bp,h.be.trans (c.2.2.2.below h.be.size (fun q e=>?_)),h.fr.trans c.2.2.2⟩
 rcases e with rfl|⟨u,d,l,hi,rfl⟩
 ·exact v
 exact Nat.le_trans p (h.cu.row u d l hi).2
theorem StW.cells (h:StW w0 wa tB pB k i j B tb g cap n1 n2 n3 r s ev xv yv mo z w):w.cell? ⟨tB,0,none⟩=some (.pointer (some ⟨tb,0,none⟩))/\w.cell? ⟨pB,0,none⟩=some (.int .i64 (k:Int))/\w.cell? ⟨pB,1,none⟩=some (.int .i64 (i:Int))/\w.cell? ⟨pB,2,none⟩=some (.int .i64 (j:Int)) :=
 ⟨h.bt.cell,cell_of h.bp 0 rfl,cell_of h.bp 1 rfl,cell_of h.bp 2 rfl⟩
end
theorem y0w {W:World} {l:Nat} {o:Obj} (c:W.heap[l]?=some o) (d:o.isCells=false) {a:Addr} {v:Value} (h:W.cell? a=some v):a.block≠l:=fun e=>by
 unfold World.cell? at h;rw[e,c] at h;cases o<;>simp_all [Obj.isCells]
theorem z1s {W:World} {l:Nat} {o:Obj} (d:W.heap[l]?=some o) (g:o.isCells=false) {b:Nat} {c:Array Value} {t:TypeId} {f:Nat × Nat} (h:W.heap[b]?=some (.cells c t f)):b≠l:=fun e=>by
 rw[e,d] at h;cases h;simp[Obj.isCells] at g
theorem Si.put {W:World} {l:Nat} {o:Obj} (o':Obj) (r:W.heap[l]?=some o) (z:o.isCells=false) {v:Value} {n:Nat} {x:Nat->Int} (h:Si none W v n x):Si none (W.putObj l o') v n x:=by
 have k:Fr (fun q=>q=l) W (W.putObj l o'):=Fr.of_gb (grownBy_putObj' W l o') (fun q e=>by cases e;rfl)
 rcases h with h|⟨b,d,c,s,j,p,u,g⟩
 ·exact .inl h
 exact .inr ⟨b,d,c,s,⟨Nat.lt_of_lt_of_le j.1 k.size,j.2⟩,p,u,fun i hi=>k.cell (g i hi) (fun e=>y0w r z (g i hi) e)⟩
theorem ItM.put {W:World} {l:Nat} {o:Obj} (o':Obj) (d:W.heap[l]?=some o) (c:o.isCells=false) {s p v b r cap na nb k i j:Nat} {M:EM} {A A':Nat->Option Addr} {C C':Nat->Nat} {z:Option Addr} {u F:Value} {x y:Nat->Int} (h:ItM W s p v b r cap M A A' C C' z u F na nb x y k i j):ItM (W.putObj l o') s p v b r cap M A A' C C' z u F na nb x y k i j:=by
 have g:Fr (fun q=>q=l) W (W.putObj l o'):=Fr.of_gb (grownBy_putObj' W l o') (fun q e=>by cases e;rfl);refine⟨h.kb.kept g (fun e=>z1s d c h.kb e),(g.block p (lt_of_block h.kp) (fun e=>z1s d c h.kp e)).trans h.kp,g.cell h.t0 (fun e=>y0w d c h.t0 e),g.cell h.t2 (fun e=>y0w d c h.t2 e),g.cell h.t3 (fun e=>y0w d c h.t3 e),fun e H=>?_,h.sx.put o' d c,h.sy.put o' d c⟩;obtain⟨D,B,E,G,I⟩:=h.row e H;exact⟨g.cell D (fun e=>y0w d c D e),g.cell B (fun e=>y0w d c B e),g.cell E (fun e=>y0w d c E e),G.put o' d c,I.put o' d c⟩
section
variable {w0 wa w w':World} {tB pB k i j B tb g cap n1 n2 n3:Nat} {r:Nat->Nat} {s:Nat->Nat->Nat} {ev xv yv:Value} {mo:Int} {z z':(Nat->Nat->Nat->ByteArray) × Nat}
theorem StW.own {N:Nat} {row:Option Nat} (h:StW w0 wa tB pB k i j B tb g cap n1 n2 n3 r s ev xv yv mo z w) (F:w.grownBy w' row) (A:∀ l,row=some l->N<=l/\∃ o:Obj,w.heap[l]?=some o/\o.isCells=false) (G:wa.heap.size<=N) (v:w0.heap.size<=N) :
  StW w0 wa tB pB k i j B tb g cap n1 n2 n3 r s ev xv yv mo z w':=by
 have d:Fr (fun q=>row=some q) w w':=Fr.of_gb F (fun _ e=>e);have ne:∀ {b:Nat} {c:Array Value} {t:TypeId} {f:Nat × Nat},w.heap[b]?=some (.cells c t f)->¬ (row=some b):=fun hb e=>by
  obtain⟨_,o,E,p⟩:=A _ e;exact z1s E p hb rfl
 refine⟨h.cu.kept d ?_ (fun k u=>?_) (fun k i u hi=>?_),h.tm.kept d (ne h.tm.blk),h.bt.kept d (ne h.bt),(d.block pB (lt_of_block h.bp) (ne h.bp)).trans h.bp,h.be.trans (d.below h.be.size (fun q e=>Nat.le_trans v (A q e).1)),⟨d.os.trans h.fr.os,d.tape.trans h.fr.tape,d.output.trans h.fr.output,Nat.le_trans h.fr.size d.size,fun q C p=>(d.block q (Nat.lt_of_lt_of_le C h.fr.size) (fun e=>?_)).trans (h.fr.block q C p)⟩⟩
 ·obtain⟨D,fr,hb⟩:=x2q h.cu.top;exact ne hb
 ·obtain⟨D,hb,_⟩:=h.cu.mid k u;exact ne hb
 ·obtain⟨D,hb,_⟩:=(h.cu.row k i u hi).1;exact ne hb
 have:=(A q e).1;omega
theorem StW.kf {N:Nat} (h:StW w0 wa tB pB k i j B tb g cap n1 n2 n3 r s ev xv yv mo z w) (l:Fr (TbB tb n1 n2 s) w w'):KeepsFrom N w w':=by
 refine⟨l.size,fun q o _ c d=>(l.block q (Array.getElem?_eq_some_iff.1 c).1 (fun e=>?_)).trans c⟩
 rcases e with rfl|⟨v,p,u,hi,rfl⟩
 ·exact z1s c d h.tm.blk rfl
 obtain⟨A,hb,_⟩:=(h.cu.row v p u hi).1;exact z1s c d hb rfl
theorem StW.nb (h:StW w0 wa tB pB k i j B tb g cap n1 n2 n3 r s ev xv yv mo z w) {b:Nat} {c:Array Value} {t:TypeId} {f:Nat × Nat} (hb:w.heap[b]?=some (.cells c t f)) (p:t≠65) (u:t≠9):¬ TbB tb n1 n2 s b:=by
 rintro(rfl|⟨v,l,o,hi,rfl⟩)
 ·have d:=h.tm.blk;rw[hb] at d;simp at d;exact p d.2.1
 exact z0e (h.cu.row v l o hi).1 hb u rfl
def z7a (P:EP) (p:Pl) (z:ST) (xs:List (Al P p)):ST:=xs.foldl (fun s e=>reaC s.1 s.2 p (toP P p e.1) (P.M.e e.1).w) z
theorem z9q {P:EP} {p:Pl} {z:ST} {xs:List (Al P p)} {x:Al P p}:z7a P p z (xs++[x])=reaC (z7a P p z xs).1 (z7a P p z xs).2 p (toP P p x.1) (P.M.e x.1).w:=by
 unfold z7a;rw[List.foldl_append];rfl
theorem y5x {P:EP} {p:Pl} {z:ST}:∀ n,z2s P p n z=(nums (fun e=>canB P p e) n).foldl (fun s e=>reaC s.1 s.2 p (toP P p e) (P.M.e e).w) z
 | 0=>rfl
 | n+1=>by
  show (if canB P p n=true then _ else _)=(nums _ n++_).foldl _ z
  rw[List.foldl_append,<- y5x n];cases h:canB P p n<;>simp[h]
theorem y1g {P:EP} {p:Pl} {z:ST} {xs:List (Al P p)} {n:Nat} (h:xs.map (·.1)=nums (fun e=>canB P p e) n):z7a P p z xs=z2s P p n z:=by
 rw[y5x,<- h,List.foldl_map];rfl
theorem StW.itm {o d be p v na nb:Nat} {M:EM} {A A':Nat->Option Addr} {C C':Nat->Nat} {D:Option Addr} {x y:Nat->Int} (h:StW w0 wa tB pB k i j B tb g cap n1 n2 n3 r s ev xv yv mo z w)
  (hb:Bx w o 62 (.pointer (some ⟨tb,0,none⟩))) (E:w.heap[d]?=some (.cells #[.int .i64 (k:Int),.int .i64 (i:Int),.int .i64 (j:Int)] 70 (0,0)))
  (u:ev=.slice D M.n v) (K:Si none w0 xv na x) (I:Si none w0 yv nb y)
  (l:∀ i,i<M.n->w0.cell? ⟨be,p+i*3,none⟩=some (.slice (A i) (M.e i).nf (C i))/\w0.cell? ⟨be,p+i*3+1,none⟩=some (.slice (A' i) (M.e i).nt (C' i))/\w0.cell? ⟨be,p+i*3+2,none⟩=some (.string (M.e i).w) /\
   Si none w0 (.slice (A i) (M.e i).nf (C i)) (M.e i).nf (M.e i).f/\Si none w0 (.slice (A' i) (M.e i).nt (C' i)) (M.e i).nt (M.e i).t):ItM w o d tb be p v M A A' C C' D xv yv na nb x y k i j:=by
 have c:w0.grownBy w none:=z0c h.be none;obtain⟨t0,t1,t2,t3,t4,t5⟩:=h.tm.cells;refine⟨hb,E,u ▸ t0,t2,t3,fun e G=>?_,K.kept c,I.kept c⟩;obtain⟨J,H,L,F,N⟩:=l e G;exact⟨c.cell J (by simp),c.cell H (by simp),c.cell L (by simp),F.kept c,N.kept c⟩
end
theorem x6s {P:Program} {c:Code} {Q:Exit->Act->World->Prop} {a:Act} {w:World} (h:∀ T,T=a.tmps->c.wp P Q { tmps:=T,defers:=a.defers } w):c.wp P Q a w:=h _ rfl
theorem y9k:∀ args w,(callFunc 130 args).run prog w=.ok (.enter 130 args) w:=fun args w=>by kernel_rfl
theorem y1p {c k i j:Nat} (w:World):Calls prog 96 #[.pointer (some ⟨c,0,none⟩),.agg #[.int .i64 (k:Int),.int .i64 (i:Int),.int .i64 (j:Int)]] w (fun rr W=>rr=.returned (.func (.func 130) #[] #[.pointer (some ⟨w.heap.size,0,none⟩),.pointer (some ⟨w.heap.size+1,0,none⟩)]) /\
  W=(w.alloc (.cells #[.pointer (some ⟨c,0,none⟩)] 62)).alloc (.cells #[.int .i64 (k:Int),.int .i64 (i:Int),.int .i64 (j:Int)] 70)):=by
 go_enter func96,ntmps96
 go_wp2_with fail
 go_ret;exact⟨rfl,rfl⟩
theorem wrap1 {i n c:Nat} (h:i<n) (g:n<=c) (d:c<=maxLen):wrap64 ((i:Int)+1)=(i:Int)+1:=by
 unfold maxLen at d;unfold wrap64;omega
theorem u1i:smS ⟨#[48]⟩:=by unfold smS;decide
theorem y2b {F:Fence} {n:Nat} {P:Program} {fn:Func} {R:Ending->World->Prop} {e:Exit} (c:e=.ret\/e=.normal) {a:Act} {w:World} (d:a.defers=[]) (g:fn.results=#[]) (h:R (.returned (.tuple #[])) w):bodyPostM F n P fn R e a w:=by
 rcases c with rfl|rfl<;>(unfold bodyPostM;simp only[];rw[d];exact⟨_,results_none g _ _ _,h⟩)
theorem y1q {F:Fence} {n:Nat} {P:Program} {fn:Func} {R:Ending->World->Prop} {a:Act} {w:World} {D:Nat} (d:a.defers=[{ target:=.collected D,args:=#[] }]) (c:w.heap[D]?=some (.deferred (some []))) (g:fn.results=#[])
  (h:R (.returned (.tuple #[])) (w.putObj D (.deferred none))):bodyPostM F n P fn R .normal a w:=by
 unfold bodyPostM;simp only[];rw[d];exact⟨by simp,.inl ⟨D,_,rfl,run_takeDeferred c,⟨_,results_none g _ _ _,h⟩⟩⟩
theorem x4n {P:EP} {p:Pl} {s:ST} (h:s.1 p.1 p.2.1 p.2.2=⟨#[]⟩):stpC P p s=s:=by unfold stpC;rw[if_pos h]
theorem v0c {P:EP} {p:Pl} {s:ST} (h:s.1 p.1 p.2.1 p.2.2≠⟨#[]⟩) (c:(p.1:Int)=P.M.most):stpC P p s=cpC P p s:=by unfold stpC;rw[if_neg h,if_pos c]
theorem u0r {P:EP} {p:Pl} {s:ST} (h:s.1 p.1 p.2.1 p.2.2≠⟨#[]⟩) (c:(p.1:Int)≠P.M.most):stpC P p s=z2s P p P.M.n (cpC P p s):=by unfold stpC;rw[if_neg h,if_neg c]
theorem x6c {P:EP} {p:Pl} {s c d:ST} (i:d=stpC P p s) (h:s.1 p.1 p.2.1 p.2.2≠⟨#[]⟩) (g:cpC P p s=c):d=if (p.1:Int)=P.M.most then c else z2s P p P.M.n c:=by
 rw[i];unfold stpC;rw[if_neg h,g]
theorem y8e {P:EP} {p:Pl} {s:ST} (h:¬ (p.2.1<P.a/\p.2.2<P.b/\P.x p.2.1=P.y p.2.2)):cpC P p s=s:=by unfold cpC;rw[if_neg h]
theorem v2j {P:EP} {p:Pl} {s:ST} (h:p.2.1<P.a/\p.2.2<P.b/\P.x p.2.1=P.y p.2.2):cpC P p s=reaC s.1 s.2 p (p.1,p.2.1+1,p.2.2+1) ⟨#[48]⟩:=by unfold cpC;rw[if_pos h]
theorem x9v {w0:World} {k i j B tb g cap na nb e:Nat} {r:Nat->Nat} {s:Nat->Nat->Nat} {X:XT} {ev xv yv:Value} {M:EM} {x y:Nat->Int} (w:World)
  (h:Cu w B g cap (M.most.toNat+1) (na+1) (nb+1) r s X) (ht:TbM w tb g cap (M.most.toNat+1) (na+1) (nb+1) ev xv yv M.most e) (hv:VE M) (i6:ESz M)
  (b9:EdS none w0 ev M) (hx:Si none w0 xv na x) (hy:Si none w0 yv nb y) (hb:Below w0.heap.size w0 w) (hB:w0.heap.size<=B) (hT:w0.heap.size<=tb) (hk:k<M.most.toNat+1) (hi:i<na+1) (hj:j<nb+1) (f9:Tab w0) :
  Calls prog 43 #[.pointer (some ⟨tb,0,none⟩),plV k i j] w (ReaE B tb g cap (M.most.toNat+1) (na+1) (nb+1) r s ev xv yv M.most (stpC ⟨M,na,x,nb,y⟩ (k,i,j) (X,e)) w):=by
 obtain⟨w1,e9⟩:=exq (w.alloc (.cells #[.pointer (some ⟨tb,0,none⟩)] 62));obtain⟨w2,f5⟩:=exq (w1.alloc (.cells #[.int .i64 (k:Int),.int .i64 (i:Int),.int .i64 (j:Int)] 70));have b3:w1.heap.size=w.heap.size+1:=by rw[e9];simp
 obtain⟨tB,g5⟩:=exq (w.heap.size);obtain⟨pB,g6⟩:=exq (w.heap.size+1);have i2:Fr (fun _=>False) w w1:=by rw[e9];exact Fr.alloc _ _
 have g4:Fr (fun _=>False) w1 w2:=by rw[f5];exact Fr.alloc _ _
 have hf:=i2.trans g4;have h8:w1.heap[tB]?=some (.cells #[.pointer (some ⟨tb,0,none⟩)] 62 (0,0)):=by rw[e9,g5];exact heap_alloc_new w _
 have j4:w2.heap[pB]?=some (.cells #[.int .i64 (k:Int),.int .i64 (i:Int),.int .i64 (j:Int)] 70 (0,0)):=by rw[f5,g6,<- b3];exact heap_alloc_new w1 _
 have f1:StW w0 w tB pB k i j B tb g cap (M.most.toNat+1) (na+1) (nb+1) r s ev xv yv M.most (X,e) w2 :=
  ⟨h.new hf,ht.kept hf (fun e=>e),Bx.kept (C:=fun _=>False) h8 g4 (fun e=>e),j4,hb.trans (hf.below hb.size (fun _ e=>e.elim)),hf.mono (fun _ _ e=>e.elim)⟩
 clear i2 g4 hf h8 j4;have f8:=qh hb.size;have g1:=x4e w2 f1.cu f1.tm hk hi hj;unfold plV at g1;obtain⟨p0,p1,p2,p3⟩:=f1.cells;have j0:=qh g1;clear g1;have j6:=qh f1;clear f1 h ht hb;have HV:=qh hv;clear hv;have f4:=qh i6;clear i6;have f2:=qh b9;clear b9;have HX:=qh hx;clear hx;have HY:=qh hy;clear hy;have f0:=qh f9;clear f9;have HB:=qh hB;clear hB;have HT:=qh hT;clear hT;have HK:=qh hk;clear hk;have HI:=qh hi;clear hi;have HJ:=qh hj;clear hj;obtain⟨zz,g8⟩:=exq (stpC ⟨M,na,x,nb,y⟩ (k,i,j) (X,e));rw[<- g8];have HZ:=qh g8;clear g8;refine(callsIn_wide (n:=9)).1 (callsIn_of_wp_marks func43 rfl trivial (wpIn_wide.2 ?_) rfl);simp only[ntmps43,plV,List.size_toArray,List.length_cons,List.length_nil,Nat.reduceAdd,Nat.reduceSub,Array.replicate_succ,Array.replicate_zero,List.push_toArray,List.append_toArray,List.nil_append,List.cons_append]
 go_wp2_with fail
 rw[<- e9,<- f5,<- g6,<- g5];clear e9 f5 b3 g5 g6 p0 p1 p2 p3;refine j0.out.mono ?_;rintro rr w3 ⟨rfl,i7⟩;have a7:=qh (j6.out.new (Fr.of_below i7));clear j6 j0 i7;cases hO:((X k i j).toList==[])
 case true =>
  have ho:X k i j=⟨#[]⟩:=z4j hO;have hz:=HZ.out.trans (x4n (P:=⟨M,na,x,nb,y⟩) (p:=(k,i,j)) (s:=(X,e)) ho);clear ho
  go_wp2_with fail
  refine y2b (.inl rfl) rfl rfl ?_;rw[hz];exact⟨rfl,a7.out.cu,a7.out.tm,a7.out.fr⟩
 have j7:X k i j≠⟨#[]⟩:=fun e=>by rw[e] at hO;simp at hO
 have f7:=qh j7;clear j7;obtain⟨ax,cx,bx,ox,g2,i9,j1,j5,h9,g9⟩:=HX.out.open;obtain⟨ay,cy,j2,oy,g7,i3,i8,g0,i5,h0⟩:=HY.out.open;obtain⟨t0,t1,t2,t3,t4,t5⟩:=a7.out.tm.cells;obtain⟨p0,p1,p2,p3⟩:=a7.out.cells;have d9:=a7.out.be;rw[g2] at t2;rw[g7] at t3;have i4:=qh d9;clear d9;have l7:=qh g2;clear g2;have l6:=qh g7;clear g7;have k5:=qh h9;clear h9;have k0:=qh i5;clear i5;have k2:=qh g9;clear g9;have k6:=qh h0;clear h0;have k3:=qh i9;clear i9;have k1:=qh i3;clear i3;have k7:=qh j1;clear j1;have k9:=qh i8;clear i8;have j9:=qh j5;clear j5;have j3:=qh g0;clear g0;by_cases hi:i<na
 ·have l5:(i:Int)<(na:Int):=by omega
  have j8:decide (i<na)=true:=by simp[hi]
  have l4:(0:Int)<=(i:Int):=by omega
  obtain rfl:=k3.out (by omega);have c1:w3.cell? ⟨bx,ox+i,none⟩=some (.int .i64 (x i)):=(i4.out.cell (p:=⟨bx,ox+i,none⟩) (k5.out (by omega)).1).trans (k2.out i hi);by_cases hj:j<nb
  ·have m3:(j:Int)<(nb:Int):=by omega
   have k4:decide (j<nb)=true:=by simp[hj]
   have l0:(0:Int)<=(j:Int):=by omega
   obtain rfl:=k1.out (by omega);have c2:w3.cell? ⟨j2,oy+j,none⟩=some (.int .i64 (y j)):=(i4.out.cell (p:=⟨j2,oy+j,none⟩) (k0.out (by omega)).1).trans (k6.out j hj);cases g3:(x i==y j)
   case false =>
    have HC:=qh (x6c HZ.out f7.out (y8e (P:=⟨M,na,x,nb,y⟩) (p:=(k,i,j)) (s:=(X,e)) (fun h=>by have J:x i=y j:=h.2.2;rw[J] at g3;simp at g3)))
    go_wp2_with fail
    go_quiet (fail)
    go_wp2_with fail
    have A:=qh (a7.out.new (Fr.of_below (below_drewN (Below.refl _ w3) nq)));obtain⟨w4,e0⟩:=exq (w3.drewN nq);rw[<- e0] at A ⊢;clear e0;obtain⟨z1,b3⟩:∃ z1:ST,z1=(X,e):=⟨_,rfl⟩;rw[<- b3] at A HC;clear b3;clear t0 t1 t2 t3 t4 t5 p0 p1 p2 p3 a7;obtain⟨t0,t1,t2,t3,t4,t5⟩:=A.out.tm.cells;obtain⟨p0,p1,p2,p3⟩:=A.out.cells;cases hm:((k:Int)==M.most)
    case true =>
     go_wp2_with fail
     go_quiet (fail)
     go_wp2_with fail
     have v:=qh (A.out.new (Fr.of_below (below_drewN (Below.refl _ w4) nq)));refine y2b (.inl rfl) rfl rfl ?_;rw[HC.out,if_pos (eq_of_beq hm)];exact⟨rfl,v.out.cu,v.out.tm,v.out.fr⟩
    case false =>
     have HC:=qh (HC.out.trans (if_neg (fun e=>by have e2:(k:Int)=M.most:=e;rw[e2] at hm;simp at hm)))
     go_wp2_with fail
     go_quiet (fail)
     go_wp2_with fail
     have v:=qh (A.out.new (Fr.of_below (below_drewN (Below.refl _ w4) nq)));obtain⟨L,b7⟩:=exq (w4.drewN nq);rw[<- b7] at v;rw[<- b7];clear b7 A;refine(y1p _).mono ?_;rintro rr w6 ⟨rfl,d1⟩;have a9:=qh d1;clear d1;clear t0 t1 t2 t3 t4 t5 p0 p1 p2 p3
     go_wp2_with fail
     have c7:(L.alloc (.cells #[.pointer (some ⟨tb,0,none⟩)] 62)).heap.size=L.heap.size+1:=by simp
     have c8:Fr (fun _=>False) L (L.alloc (.cells #[.pointer (some ⟨tb,0,none⟩)] 62)):=Fr.alloc _ _;have U:Fr (fun _=>False) (L.alloc (.cells #[.pointer (some ⟨tb,0,none⟩)] 62)) w6:=by rw[a9.out];exact Fr.alloc _ _
     have b8:Bx w6 L.heap.size 62 (.pointer (some ⟨tb,0,none⟩)):=Bx.kept (C:=fun _=>False) (heap_alloc_new L _) U (fun e=>e);have b4:w6.heap[L.heap.size+1]?=some (.cells #[.int .i64 (k:Int),.int .i64 (i:Int),.int .i64 (j:Int)] 70 (0,0)):=by rw[a9.out,<- c7];exact heap_alloc_new _ _
     have a3:=v.out.new (c8.trans U);have hN:w.heap.size<=w6.heap.size:=a3.fr.size;have e8:w0.heap.size<=w.heap.size:=f8.out;have e5:w0.heap.size<=w6.heap.size:=a3.be.size;obtain⟨I,Q⟩:=exq (L.heap.size);obtain⟨c,Z⟩:=exq (L.heap.size+1);rw[<- Z,<- Q];rw[<- Z] at b4;rw[<- Q] at b8;clear c8 U c7 a9 v Q Z;obtain⟨ae,ce,be,oe,EA,H,EC,G,b9,e1,e3,d7,d9,a5⟩:=f2.out.open;have a2:∀ (z:ST) (W:World),StW w0 w tB pB k i j B tb g cap (M.most.toNat+1) (na+1) (nb+1) r s ev xv yv M.most z W->Bx W I 62 (.pointer (some ⟨tb,0,none⟩))->W.heap[c]?=some (.cells #[.int .i64 (k:Int),.int .i64 (i:Int),.int .i64 (j:Int)] 70 (0,0))->ItM W I c tb be oe ce M EA H EC G ae xv yv na nb x y k i j :=
      fun _ _ hs hb hp=>hs.itm hb hp b9 HX.out HY.out a5
     clear b9 a5 d9 e3 d7;refine x6s (fun T hT=>(wpIn_wide (n:=9)).1 ?_);simp only[] at hT;refine wpIn_rangeFunc_ownH (F:=Fence.wide) (n:=9) rfl (by omega) (gf:=130) (lb:=#[.pointer (some ⟨I,0,none⟩),.pointer (some ⟨c,0,none⟩)]) (by rw[hT];rfl) trivial y9k
      (z6q 8 w6 (a2 _ _ a3 b8 b4) e1 HV.out.n4 (by have:=HK.out;have:=HV.out.m6;omega) (Nat.le_of_lt_succ HI.out) (Nat.le_of_lt_succ HJ.out)) (fun h k x=>k (h x)) (fun W l o o' _ hl hc _ h=>h.put o' hl hc) (Below.refl _ _) (fun _=>rfl)
      (fun u W=>StW w0 w tB pB k i j B tb g cap (M.most.toNat+1) (na+1) (nb+1) r s ev xv yv M.most (z7a ⟨M,na,x,nb,y⟩ (k,i,j) z1 u) W/\Bx W I 62 (.pointer (some ⟨tb,0,none⟩))/\W.heap[c]?=some (.cells #[.int .i64 (k:Int),.int .i64 (i:Int),.int .i64 (j:Int)] 70 (0,0)))
      (fun _ _ _=>False) ?own (fun _=>ownFrom_pure _ _) ⟨a3,b8,b4⟩
      (fun e a' W=>∃ Bq Bt,W.heap[Bq]?=some (.cells #[.slice (EA e.1) (M.e e.1).nf (EC e.1),.slice (H e.1) (M.e e.1).nt (G e.1),.string (M.e e.1).w] 50 (0,0)) /\
       W.heap[Bt]?=some (.cells #[.int .i64 ((k:Int)+1),.int .i64 ((i:Int)+((M.e e.1).nf:Int)),.int .i64 ((j:Int)+((M.e e.1).nt:Int))] 70 (0,0)) /\
       a'={ tmps:=(((T.setIfInBounds 70 (.agg #[.slice (EA e.1) (M.e e.1).nf (EC e.1),.slice (H e.1) (M.e e.1).nt (G e.1),.string (M.e e.1).w])).setIfInBounds 71 (.agg #[.int .i64 ((k:Int)+1),.int .i64 ((i:Int)+((M.e e.1).nf:Int)),.int .i64 ((j:Int)+((M.e e.1).nt:Int))])).setIfInBounds 4 (.pointer (some ⟨Bq,0,none⟩))).setIfInBounds 5 (.pointer (some ⟨Bt,0,none⟩)),defers:=[] })
      ?xb ?xa ?xc ?done (fun _ _ _ _ _ _ h=>h.elim)
     case own =>
      rintro u X Y row ⟨d,J,O⟩ hg hr;have hf:Fr (fun q=>row=some q) X Y:=Fr.of_gb hg (fun _ e=>e);exact⟨d.own hg hr hN e5,J.kept hf (fun e=>by obtain⟨_,o,ho,hc⟩:=hr _ e;exact z1s ho hc J rfl),(hf.block c (lt_of_block O) (fun e=>by obtain⟨_,o,ho,hc⟩:=hr _ e;exact z1s ho hc O rfl)).trans O⟩
     case xb =>
      rintro e a' _ X Y row ⟨Bq,Bt,d,J,O⟩ hg hr;have hf:Fr (fun q=>row=some q) X Y:=Fr.of_gb hg (fun _ e=>e);exact⟨Bq,Bt,(hf.block Bq (lt_of_block d) (fun e=>by obtain⟨_,o,ho,hc⟩:=hr _ e;exact z1s ho hc d rfl)).trans d,(hf.block Bt (lt_of_block J) (fun e=>by obtain⟨_,o,ho,hc⟩:=hr _ e;exact z1s ho hc J rfl)).trans J,O⟩
     case xa =>
      rintro l u e W K ⟨d,J,O⟩ hK;rw[hT] at hK ⊢;simp only[encE,toP,plV,Int.natCast_add,Int.natCast_one] at hK ⊢
      gi_wp2
      have a4:=Fr.alloc (C:=fun _=>False) W (.cells #[.slice (EA e.1) (M.e e.1).nf (EC e.1),.slice (H e.1) (M.e e.1).nt (G e.1),.string (M.e e.1).w] 50);have c6:(W.alloc (.cells #[.slice (EA e.1) (M.e e.1).nf (EC e.1),.slice (H e.1) (M.e e.1).nt (G e.1),.string (M.e e.1).w] 50)).heap.size=W.heap.size+1:=by simp
      have R:=Fr.alloc (C:=fun _=>False) (W.alloc (.cells #[.slice (EA e.1) (M.e e.1).nf (EC e.1),.slice (H e.1) (M.e e.1).nt (G e.1),.string (M.e e.1).w] 50)) (.cells #[.int .i64 ((k:Int)+1),.int .i64 ((i:Int)+((M.e e.1).nf:Int)),.int .i64 ((j:Int)+((M.e e.1).nt:Int))] 70);have d2:=d.new (a4.trans R);have d4:=J.kept (a4.trans R) (fun e=>e);have d5:=((a4.trans R).block c (lt_of_block O) (fun e=>e)).trans O;refine hK _ _ (d.kf ((a4.trans R).mono (fun _ _ e=>e.elim))) (fun _=>a2 _ _ d2 d4 d5) ⟨d2,d4,d5⟩ ⟨W.heap.size,W.heap.size+1,(R.block _ (by rw[c6];exact Nat.lt_succ_self _) (fun e=>e)).trans (heap_alloc_new W _),by rw[<- c6];exact heap_alloc_new _ _,?_⟩;simp only[List.setIfInBounds_toArray,List.set_cons_zero,List.set_cons_succ]
     case xc =>
      rintro l u e a' W _ _ ⟨d,J,O⟩ ⟨Bq,Bt,hq,hb,rfl⟩ _;have S:=z7t.1 e.2.2;have d3:i+(M.e e.1).nf<na+1:=Nat.lt_succ_of_le S.1.1;have d0:j+(M.e e.1).nt<nb+1:=Nat.lt_succ_of_le S.2.1;have d8:k+1<M.most.toNat+1:=by
       have h5:=HK.out;have h6:=HV.out.m0;have h7:(k:Int)≠M.most:=fun e=>by rw[e] at hm;simp at hm
       omega
      have E:=z8y (p:=(k,i,j)) (q:=toP ⟨M,na,x,nb,y⟩ (k,i,j) e.1) (wt:=(M.e e.1).w) W d.cu d.tm ⟨HK.out,HI.out,HJ.out⟩ ⟨d8,d3,d0⟩ (by have:=f4.out.w e.1;unfold smS;omega) (f0.out.below d.be (Nat.le_refl _));obtain⟨z2,b6⟩:=exq (reaC (z7a ⟨M,na,x,nb,y⟩ (k,i,j) z1 u).1 (z7a ⟨M,na,x,nb,y⟩ (k,i,j) z1 u).2 (k,i,j) (toP ⟨M,na,x,nb,y⟩ (k,i,j) e.1) (M.e e.1).w);rw[<- b6] at E;have a8:z7a ⟨M,na,x,nb,y⟩ (k,i,j) z1 (u++[e])=z2:=z9q.trans b6.symm;have e6:=qh a8;clear b6 a8 S d3 d0 d8;simp only[toP,plV,Int.natCast_add,Int.natCast_one] at E;have a6:=qh E;clear E;rw[hT];simp only[List.setIfInBounds_toArray,List.set_cons_zero,List.set_cons_succ];have q2:=cell_of hq 2 rfl;have b0:=cell_of hb 0 rfl;have b1:=cell_of hb 1 rfl;have b2:=cell_of hb 2 rfl;obtain⟨p0,p1,p2,p3⟩:=d.cells;have H1:=qh d;clear d;have H2:=qh J;clear J;have H3:=qh O;clear O;have e4:=qh a2;clear a2;clear hT hq hb
      gi_wp2_with fail
      refine⟨trivial,(CallsIn.inRound l (callsIn_wide.2 a6.out)).mono ?_⟩;rintro rr W' a1;have H5:=qh (H1.out.rea a1 HB.out HT.out);have b5:=qh a1.2.2.2;obtain rfl:=a1.1;clear a1 a6 q2 b0 b1 b2 p0 p1 p2 p3
      gi_wp2
      have d6:=H2.out.kept b5.out (H1.out.nb H2.out (by decide) (by decide));have c9:=(b5.out.block c (lt_of_block H3.out) (H1.out.nb H3.out (by decide) (by decide))).trans H3.out;have H6:=H5.out;rw[<- e6.out] at H6;exact⟨H1.out.kf b5.out,fun _=>e4.out _ _ H5.out d6 c9,H6,d6,c9⟩
     case done =>
      rintro D xs W hD e7 ⟨d,J,O⟩ hK;rw[y1g e7] at d
      gi_wp2
      refine y1q rfl hK rfl ?_;have h4:=d.own (N:=w.heap.size) (grownBy_putObj' W D (.deferred none)) (fun r e=>by cases e;exact⟨Nat.le_trans hN hD,_,hK,rfl⟩) (Nat.le_refl _) (Nat.le_trans e8 (Nat.le_refl _));rw[HC.out];exact⟨rfl,h4.cu,h4.tm,h4.fr⟩
   case true =>
    have HC:=qh (x6c HZ.out f7.out (v2j (P:=⟨M,na,x,nb,y⟩) (p:=(k,i,j)) (s:=(X,e)) ⟨hi,hj,eq_of_beq g3⟩));have l9:=wrap1 hi k7.out j9.out;have l8:=wrap1 hj k9.out j3.out;obtain⟨z1,b3⟩:=exq (reaC X e (k,i,j) (k,i+1,j+1) ⟨#[48]⟩);rw[<- b3] at HC;have HR:Hid (∀ nq,_):=qh fun nq=>z8y (wt:=⟨#[48]⟩) (p:=(k,i,j)) (q:=(k,i+1,j+1)) (w3.drewN nq) (a7.out.new (Fr.of_below (below_drewN (Below.refl _ w3) nq))).cu (a7.out.new (Fr.of_below (below_drewN (Below.refl _ w3) nq))).tm ⟨HK.out,HI.out,HJ.out⟩ ⟨HK.out,Nat.succ_lt_succ hi,Nat.succ_lt_succ hj⟩ u1i (f0.out.below (a7.out.new (Fr.of_below (below_drewN (Below.refl _ w3) nq))).be (Nat.le_refl _));simp only[plV,Int.natCast_add,Int.natCast_one] at HR;rw[<- b3] at HR;clear hi hj b3
    go_wp2_with fail
    go_quiet (fail)
    go_wp2_with fail
    refine(HR.out nq).mono ?_;intro rr w4 a1;have A:=qh ((a7.out.new (Fr.of_below (below_drewN (Below.refl _ w3) nq))).rea a1 HB.out HT.out);obtain rfl:=a1.1;clear a1
    go_wp2_with fail
    clear t0 t1 t2 t3 t4 t5 p0 p1 p2 p3 a7;obtain⟨t0,t1,t2,t3,t4,t5⟩:=A.out.tm.cells;obtain⟨p0,p1,p2,p3⟩:=A.out.cells;cases hm:((k:Int)==M.most)
    case true =>
     go_wp2_with fail
     go_quiet (fail)
     go_wp2_with fail
     have v:=qh (A.out.new (Fr.of_below (below_drewN (Below.refl _ w4) nq)));refine y2b (.inl rfl) rfl rfl ?_;rw[HC.out,if_pos (eq_of_beq hm)];exact⟨rfl,v.out.cu,v.out.tm,v.out.fr⟩
    case false =>
     have HC:=qh (HC.out.trans (if_neg (fun e=>by have e2:(k:Int)=M.most:=e;rw[e2] at hm;simp at hm)))
     go_wp2_with fail
     go_quiet (fail)
     go_wp2_with fail
     have v:=qh (A.out.new (Fr.of_below (below_drewN (Below.refl _ w4) nq)));obtain⟨L,b7⟩:=exq (w4.drewN nq);rw[<- b7] at v;rw[<- b7];clear b7 A;refine(y1p _).mono ?_;rintro rr w6 ⟨rfl,d1⟩;have a9:=qh d1;clear d1;clear t0 t1 t2 t3 t4 t5 p0 p1 p2 p3
     go_wp2_with fail
     have c7:(L.alloc (.cells #[.pointer (some ⟨tb,0,none⟩)] 62)).heap.size=L.heap.size+1:=by simp
     have c8:Fr (fun _=>False) L (L.alloc (.cells #[.pointer (some ⟨tb,0,none⟩)] 62)):=Fr.alloc _ _;have U:Fr (fun _=>False) (L.alloc (.cells #[.pointer (some ⟨tb,0,none⟩)] 62)) w6:=by rw[a9.out];exact Fr.alloc _ _
     have b8:Bx w6 L.heap.size 62 (.pointer (some ⟨tb,0,none⟩)):=Bx.kept (C:=fun _=>False) (heap_alloc_new L _) U (fun e=>e);have b4:w6.heap[L.heap.size+1]?=some (.cells #[.int .i64 (k:Int),.int .i64 (i:Int),.int .i64 (j:Int)] 70 (0,0)):=by rw[a9.out,<- c7];exact heap_alloc_new _ _
     have a3:=v.out.new (c8.trans U);have hN:w.heap.size<=w6.heap.size:=a3.fr.size;have e8:w0.heap.size<=w.heap.size:=f8.out;have e5:w0.heap.size<=w6.heap.size:=a3.be.size;obtain⟨I,Q⟩:=exq (L.heap.size);obtain⟨c,Z⟩:=exq (L.heap.size+1);rw[<- Z,<- Q];rw[<- Z] at b4;rw[<- Q] at b8;clear c8 U c7 a9 v Q Z;obtain⟨ae,ce,be,oe,EA,H,EC,G,b9,e1,e3,d7,d9,a5⟩:=f2.out.open;have a2:∀ (z:ST) (W:World),StW w0 w tB pB k i j B tb g cap (M.most.toNat+1) (na+1) (nb+1) r s ev xv yv M.most z W->Bx W I 62 (.pointer (some ⟨tb,0,none⟩))->W.heap[c]?=some (.cells #[.int .i64 (k:Int),.int .i64 (i:Int),.int .i64 (j:Int)] 70 (0,0))->ItM W I c tb be oe ce M EA H EC G ae xv yv na nb x y k i j :=
      fun _ _ hs hb hp=>hs.itm hb hp b9 HX.out HY.out a5
     clear b9 a5 d9 e3 d7;refine x6s (fun T hT=>(wpIn_wide (n:=9)).1 ?_);simp only[] at hT;refine wpIn_rangeFunc_ownH (F:=Fence.wide) (n:=9) rfl (by omega) (gf:=130) (lb:=#[.pointer (some ⟨I,0,none⟩),.pointer (some ⟨c,0,none⟩)]) (by rw[hT];rfl) trivial y9k
      (z6q 8 w6 (a2 _ _ a3 b8 b4) e1 HV.out.n4 (by have:=HK.out;have:=HV.out.m6;omega) (Nat.le_of_lt_succ HI.out) (Nat.le_of_lt_succ HJ.out)) (fun h k x=>k (h x)) (fun W l o o' _ hl hc _ h=>h.put o' hl hc) (Below.refl _ _) (fun _=>rfl)
      (fun u W=>StW w0 w tB pB k i j B tb g cap (M.most.toNat+1) (na+1) (nb+1) r s ev xv yv M.most (z7a ⟨M,na,x,nb,y⟩ (k,i,j) z1 u) W/\Bx W I 62 (.pointer (some ⟨tb,0,none⟩))/\W.heap[c]?=some (.cells #[.int .i64 (k:Int),.int .i64 (i:Int),.int .i64 (j:Int)] 70 (0,0)))
      (fun _ _ _=>False) ?own (fun _=>ownFrom_pure _ _) ⟨a3,b8,b4⟩
      (fun e a' W=>∃ Bq Bt,W.heap[Bq]?=some (.cells #[.slice (EA e.1) (M.e e.1).nf (EC e.1),.slice (H e.1) (M.e e.1).nt (G e.1),.string (M.e e.1).w] 50 (0,0)) /\
       W.heap[Bt]?=some (.cells #[.int .i64 ((k:Int)+1),.int .i64 ((i:Int)+((M.e e.1).nf:Int)),.int .i64 ((j:Int)+((M.e e.1).nt:Int))] 70 (0,0)) /\
       a'={ tmps:=(((T.setIfInBounds 70 (.agg #[.slice (EA e.1) (M.e e.1).nf (EC e.1),.slice (H e.1) (M.e e.1).nt (G e.1),.string (M.e e.1).w])).setIfInBounds 71 (.agg #[.int .i64 ((k:Int)+1),.int .i64 ((i:Int)+((M.e e.1).nf:Int)),.int .i64 ((j:Int)+((M.e e.1).nt:Int))])).setIfInBounds 4 (.pointer (some ⟨Bq,0,none⟩))).setIfInBounds 5 (.pointer (some ⟨Bt,0,none⟩)),defers:=[] })
      ?xb ?xa ?xc ?done (fun _ _ _ _ _ _ h=>h.elim)
     case own =>
      rintro u X Y row ⟨d,J,O⟩ hg hr;have hf:Fr (fun q=>row=some q) X Y:=Fr.of_gb hg (fun _ e=>e);exact⟨d.own hg hr hN e5,J.kept hf (fun e=>by obtain⟨_,o,ho,hc⟩:=hr _ e;exact z1s ho hc J rfl),(hf.block c (lt_of_block O) (fun e=>by obtain⟨_,o,ho,hc⟩:=hr _ e;exact z1s ho hc O rfl)).trans O⟩
     case xb =>
      rintro e a' _ X Y row ⟨Bq,Bt,d,J,O⟩ hg hr;have hf:Fr (fun q=>row=some q) X Y:=Fr.of_gb hg (fun _ e=>e);exact⟨Bq,Bt,(hf.block Bq (lt_of_block d) (fun e=>by obtain⟨_,o,ho,hc⟩:=hr _ e;exact z1s ho hc d rfl)).trans d,(hf.block Bt (lt_of_block J) (fun e=>by obtain⟨_,o,ho,hc⟩:=hr _ e;exact z1s ho hc J rfl)).trans J,O⟩
     case xa =>
      rintro l u e W K ⟨d,J,O⟩ hK;rw[hT] at hK ⊢;simp only[encE,toP,plV,Int.natCast_add,Int.natCast_one] at hK ⊢
      gi_wp2
      have a4:=Fr.alloc (C:=fun _=>False) W (.cells #[.slice (EA e.1) (M.e e.1).nf (EC e.1),.slice (H e.1) (M.e e.1).nt (G e.1),.string (M.e e.1).w] 50);have c6:(W.alloc (.cells #[.slice (EA e.1) (M.e e.1).nf (EC e.1),.slice (H e.1) (M.e e.1).nt (G e.1),.string (M.e e.1).w] 50)).heap.size=W.heap.size+1:=by simp
      have R:=Fr.alloc (C:=fun _=>False) (W.alloc (.cells #[.slice (EA e.1) (M.e e.1).nf (EC e.1),.slice (H e.1) (M.e e.1).nt (G e.1),.string (M.e e.1).w] 50)) (.cells #[.int .i64 ((k:Int)+1),.int .i64 ((i:Int)+((M.e e.1).nf:Int)),.int .i64 ((j:Int)+((M.e e.1).nt:Int))] 70);have d2:=d.new (a4.trans R);have d4:=J.kept (a4.trans R) (fun e=>e);have d5:=((a4.trans R).block c (lt_of_block O) (fun e=>e)).trans O;refine hK _ _ (d.kf ((a4.trans R).mono (fun _ _ e=>e.elim))) (fun _=>a2 _ _ d2 d4 d5) ⟨d2,d4,d5⟩ ⟨W.heap.size,W.heap.size+1,(R.block _ (by rw[c6];exact Nat.lt_succ_self _) (fun e=>e)).trans (heap_alloc_new W _),by rw[<- c6];exact heap_alloc_new _ _,?_⟩;simp only[List.setIfInBounds_toArray,List.set_cons_zero,List.set_cons_succ]
     case xc =>
      rintro l u e a' W _ _ ⟨d,J,O⟩ ⟨Bq,Bt,hq,hb,rfl⟩ _;have S:=z7t.1 e.2.2;have d3:i+(M.e e.1).nf<na+1:=Nat.lt_succ_of_le S.1.1;have d0:j+(M.e e.1).nt<nb+1:=Nat.lt_succ_of_le S.2.1;have d8:k+1<M.most.toNat+1:=by
       have h5:=HK.out;have h6:=HV.out.m0;have h7:(k:Int)≠M.most:=fun e=>by rw[e] at hm;simp at hm
       omega
      have E:=z8y (p:=(k,i,j)) (q:=toP ⟨M,na,x,nb,y⟩ (k,i,j) e.1) (wt:=(M.e e.1).w) W d.cu d.tm ⟨HK.out,HI.out,HJ.out⟩ ⟨d8,d3,d0⟩ (by have:=f4.out.w e.1;unfold smS;omega) (f0.out.below d.be (Nat.le_refl _));obtain⟨z2,b6⟩:=exq (reaC (z7a ⟨M,na,x,nb,y⟩ (k,i,j) z1 u).1 (z7a ⟨M,na,x,nb,y⟩ (k,i,j) z1 u).2 (k,i,j) (toP ⟨M,na,x,nb,y⟩ (k,i,j) e.1) (M.e e.1).w);rw[<- b6] at E;have a8:z7a ⟨M,na,x,nb,y⟩ (k,i,j) z1 (u++[e])=z2:=z9q.trans b6.symm;have e6:=qh a8;clear b6 a8 S d3 d0 d8;simp only[toP,plV,Int.natCast_add,Int.natCast_one] at E;have a6:=qh E;clear E;rw[hT];simp only[List.setIfInBounds_toArray,List.set_cons_zero,List.set_cons_succ];have q2:=cell_of hq 2 rfl;have b0:=cell_of hb 0 rfl;have b1:=cell_of hb 1 rfl;have b2:=cell_of hb 2 rfl;obtain⟨p0,p1,p2,p3⟩:=d.cells;have H1:=qh d;clear d;have H2:=qh J;clear J;have H3:=qh O;clear O;have e4:=qh a2;clear a2;clear hT hq hb
      gi_wp2_with fail
      refine⟨trivial,(CallsIn.inRound l (callsIn_wide.2 a6.out)).mono ?_⟩;rintro rr W' a1;have H5:=qh (H1.out.rea a1 HB.out HT.out);have b5:=qh a1.2.2.2;obtain rfl:=a1.1;clear a1 a6 q2 b0 b1 b2 p0 p1 p2 p3
      gi_wp2
      have d6:=H2.out.kept b5.out (H1.out.nb H2.out (by decide) (by decide));have c9:=(b5.out.block c (lt_of_block H3.out) (H1.out.nb H3.out (by decide) (by decide))).trans H3.out;have H6:=H5.out;rw[<- e6.out] at H6;exact⟨H1.out.kf b5.out,fun _=>e4.out _ _ H5.out d6 c9,H6,d6,c9⟩
     case done =>
      rintro D xs W hD e7 ⟨d,J,O⟩ hK;rw[y1g e7] at d
      gi_wp2
      refine y1q rfl hK rfl ?_;have h4:=d.own (N:=w.heap.size) (grownBy_putObj' W D (.deferred none)) (fun r e=>by cases e;exact⟨Nat.le_trans hN hD,_,hK,rfl⟩) (Nat.le_refl _) (Nat.le_trans e8 (Nat.le_refl _));rw[HC.out];exact⟨rfl,h4.cu,h4.tm,h4.fr⟩
  have k4:decide (j<nb)=false:=by simp;omega
  have HC:=qh (x6c HZ.out f7.out (y8e (P:=⟨M,na,x,nb,y⟩) (p:=(k,i,j)) (s:=(X,e)) (fun h=>hj h.2.1)));clear hi hj
  go_wp2_with fail
  go_quiet (fail)
  go_wp2_with fail
  have A:=qh (a7.out.new (Fr.of_below (below_drewN (Below.refl _ w3) nq)));obtain⟨w4,e0⟩:=exq (w3.drewN nq);rw[<- e0] at A ⊢;clear e0;obtain⟨z1,b3⟩:∃ z1:ST,z1=(X,e):=⟨_,rfl⟩;rw[<- b3] at A HC;clear b3;clear t0 t1 t2 t3 t4 t5 p0 p1 p2 p3 a7;obtain⟨t0,t1,t2,t3,t4,t5⟩:=A.out.tm.cells;obtain⟨p0,p1,p2,p3⟩:=A.out.cells;cases hm:((k:Int)==M.most)
  case true =>
   go_wp2_with fail
   go_quiet (fail)
   go_wp2_with fail
   have v:=qh (A.out.new (Fr.of_below (below_drewN (Below.refl _ w4) nq)));refine y2b (.inl rfl) rfl rfl ?_;rw[HC.out,if_pos (eq_of_beq hm)];exact⟨rfl,v.out.cu,v.out.tm,v.out.fr⟩
  case false =>
   have HC:=qh (HC.out.trans (if_neg (fun e=>by have e2:(k:Int)=M.most:=e;rw[e2] at hm;simp at hm)))
   go_wp2_with fail
   go_quiet (fail)
   go_wp2_with fail
   have v:=qh (A.out.new (Fr.of_below (below_drewN (Below.refl _ w4) nq)));obtain⟨L,b7⟩:=exq (w4.drewN nq);rw[<- b7] at v;rw[<- b7];clear b7 A;refine(y1p _).mono ?_;rintro rr w6 ⟨rfl,d1⟩;have a9:=qh d1;clear d1;clear t0 t1 t2 t3 t4 t5 p0 p1 p2 p3
   go_wp2_with fail
   have c7:(L.alloc (.cells #[.pointer (some ⟨tb,0,none⟩)] 62)).heap.size=L.heap.size+1:=by simp
   have c8:Fr (fun _=>False) L (L.alloc (.cells #[.pointer (some ⟨tb,0,none⟩)] 62)):=Fr.alloc _ _;have U:Fr (fun _=>False) (L.alloc (.cells #[.pointer (some ⟨tb,0,none⟩)] 62)) w6:=by rw[a9.out];exact Fr.alloc _ _
   have b8:Bx w6 L.heap.size 62 (.pointer (some ⟨tb,0,none⟩)):=Bx.kept (C:=fun _=>False) (heap_alloc_new L _) U (fun e=>e);have b4:w6.heap[L.heap.size+1]?=some (.cells #[.int .i64 (k:Int),.int .i64 (i:Int),.int .i64 (j:Int)] 70 (0,0)):=by rw[a9.out,<- c7];exact heap_alloc_new _ _
   have a3:=v.out.new (c8.trans U);have hN:w.heap.size<=w6.heap.size:=a3.fr.size;have e8:w0.heap.size<=w.heap.size:=f8.out;have e5:w0.heap.size<=w6.heap.size:=a3.be.size;obtain⟨I,Q⟩:=exq (L.heap.size);obtain⟨c,Z⟩:=exq (L.heap.size+1);rw[<- Z,<- Q];rw[<- Z] at b4;rw[<- Q] at b8;clear c8 U c7 a9 v Q Z;obtain⟨ae,ce,be,oe,EA,H,EC,G,b9,e1,e3,d7,d9,a5⟩:=f2.out.open;have a2:∀ (z:ST) (W:World),StW w0 w tB pB k i j B tb g cap (M.most.toNat+1) (na+1) (nb+1) r s ev xv yv M.most z W->Bx W I 62 (.pointer (some ⟨tb,0,none⟩))->W.heap[c]?=some (.cells #[.int .i64 (k:Int),.int .i64 (i:Int),.int .i64 (j:Int)] 70 (0,0))->ItM W I c tb be oe ce M EA H EC G ae xv yv na nb x y k i j :=
    fun _ _ hs hb hp=>hs.itm hb hp b9 HX.out HY.out a5
   clear b9 a5 d9 e3 d7;refine x6s (fun T hT=>(wpIn_wide (n:=9)).1 ?_);simp only[] at hT;refine wpIn_rangeFunc_ownH (F:=Fence.wide) (n:=9) rfl (by omega) (gf:=130) (lb:=#[.pointer (some ⟨I,0,none⟩),.pointer (some ⟨c,0,none⟩)]) (by rw[hT];rfl) trivial y9k
    (z6q 8 w6 (a2 _ _ a3 b8 b4) e1 HV.out.n4 (by have:=HK.out;have:=HV.out.m6;omega) (Nat.le_of_lt_succ HI.out) (Nat.le_of_lt_succ HJ.out)) (fun h k x=>k (h x)) (fun W l o o' _ hl hc _ h=>h.put o' hl hc) (Below.refl _ _) (fun _=>rfl)
    (fun u W=>StW w0 w tB pB k i j B tb g cap (M.most.toNat+1) (na+1) (nb+1) r s ev xv yv M.most (z7a ⟨M,na,x,nb,y⟩ (k,i,j) z1 u) W/\Bx W I 62 (.pointer (some ⟨tb,0,none⟩))/\W.heap[c]?=some (.cells #[.int .i64 (k:Int),.int .i64 (i:Int),.int .i64 (j:Int)] 70 (0,0)))
    (fun _ _ _=>False) ?own (fun _=>ownFrom_pure _ _) ⟨a3,b8,b4⟩
    (fun e a' W=>∃ Bq Bt,W.heap[Bq]?=some (.cells #[.slice (EA e.1) (M.e e.1).nf (EC e.1),.slice (H e.1) (M.e e.1).nt (G e.1),.string (M.e e.1).w] 50 (0,0)) /\
     W.heap[Bt]?=some (.cells #[.int .i64 ((k:Int)+1),.int .i64 ((i:Int)+((M.e e.1).nf:Int)),.int .i64 ((j:Int)+((M.e e.1).nt:Int))] 70 (0,0)) /\
     a'={ tmps:=(((T.setIfInBounds 70 (.agg #[.slice (EA e.1) (M.e e.1).nf (EC e.1),.slice (H e.1) (M.e e.1).nt (G e.1),.string (M.e e.1).w])).setIfInBounds 71 (.agg #[.int .i64 ((k:Int)+1),.int .i64 ((i:Int)+((M.e e.1).nf:Int)),.int .i64 ((j:Int)+((M.e e.1).nt:Int))])).setIfInBounds 4 (.pointer (some ⟨Bq,0,none⟩))).setIfInBounds 5 (.pointer (some ⟨Bt,0,none⟩)),defers:=[] })
    ?xb ?xa ?xc ?done (fun _ _ _ _ _ _ h=>h.elim)
   case own =>
    rintro u X Y row ⟨d,J,O⟩ hg hr;have hf:Fr (fun q=>row=some q) X Y:=Fr.of_gb hg (fun _ e=>e);exact⟨d.own hg hr hN e5,J.kept hf (fun e=>by obtain⟨_,o,ho,hc⟩:=hr _ e;exact z1s ho hc J rfl),(hf.block c (lt_of_block O) (fun e=>by obtain⟨_,o,ho,hc⟩:=hr _ e;exact z1s ho hc O rfl)).trans O⟩
   case xb =>
    rintro e a' _ X Y row ⟨Bq,Bt,d,J,O⟩ hg hr;have hf:Fr (fun q=>row=some q) X Y:=Fr.of_gb hg (fun _ e=>e);exact⟨Bq,Bt,(hf.block Bq (lt_of_block d) (fun e=>by obtain⟨_,o,ho,hc⟩:=hr _ e;exact z1s ho hc d rfl)).trans d,(hf.block Bt (lt_of_block J) (fun e=>by obtain⟨_,o,ho,hc⟩:=hr _ e;exact z1s ho hc J rfl)).trans J,O⟩
   case xa =>
    rintro l u e W K ⟨d,J,O⟩ hK;rw[hT] at hK ⊢;simp only[encE,toP,plV,Int.natCast_add,Int.natCast_one] at hK ⊢
    gi_wp2
    have a4:=Fr.alloc (C:=fun _=>False) W (.cells #[.slice (EA e.1) (M.e e.1).nf (EC e.1),.slice (H e.1) (M.e e.1).nt (G e.1),.string (M.e e.1).w] 50);have c6:(W.alloc (.cells #[.slice (EA e.1) (M.e e.1).nf (EC e.1),.slice (H e.1) (M.e e.1).nt (G e.1),.string (M.e e.1).w] 50)).heap.size=W.heap.size+1:=by simp
    have R:=Fr.alloc (C:=fun _=>False) (W.alloc (.cells #[.slice (EA e.1) (M.e e.1).nf (EC e.1),.slice (H e.1) (M.e e.1).nt (G e.1),.string (M.e e.1).w] 50)) (.cells #[.int .i64 ((k:Int)+1),.int .i64 ((i:Int)+((M.e e.1).nf:Int)),.int .i64 ((j:Int)+((M.e e.1).nt:Int))] 70);have d2:=d.new (a4.trans R);have d4:=J.kept (a4.trans R) (fun e=>e);have d5:=((a4.trans R).block c (lt_of_block O) (fun e=>e)).trans O;refine hK _ _ (d.kf ((a4.trans R).mono (fun _ _ e=>e.elim))) (fun _=>a2 _ _ d2 d4 d5) ⟨d2,d4,d5⟩ ⟨W.heap.size,W.heap.size+1,(R.block _ (by rw[c6];exact Nat.lt_succ_self _) (fun e=>e)).trans (heap_alloc_new W _),by rw[<- c6];exact heap_alloc_new _ _,?_⟩;simp only[List.setIfInBounds_toArray,List.set_cons_zero,List.set_cons_succ]
   case xc =>
    rintro l u e a' W _ _ ⟨d,J,O⟩ ⟨Bq,Bt,hq,hb,rfl⟩ _;have S:=z7t.1 e.2.2;have d3:i+(M.e e.1).nf<na+1:=Nat.lt_succ_of_le S.1.1;have d0:j+(M.e e.1).nt<nb+1:=Nat.lt_succ_of_le S.2.1;have d8:k+1<M.most.toNat+1:=by
     have h5:=HK.out;have h6:=HV.out.m0;have h7:(k:Int)≠M.most:=fun e=>by rw[e] at hm;simp at hm
     omega
    have E:=z8y (p:=(k,i,j)) (q:=toP ⟨M,na,x,nb,y⟩ (k,i,j) e.1) (wt:=(M.e e.1).w) W d.cu d.tm ⟨HK.out,HI.out,HJ.out⟩ ⟨d8,d3,d0⟩ (by have:=f4.out.w e.1;unfold smS;omega) (f0.out.below d.be (Nat.le_refl _));obtain⟨z2,b6⟩:=exq (reaC (z7a ⟨M,na,x,nb,y⟩ (k,i,j) z1 u).1 (z7a ⟨M,na,x,nb,y⟩ (k,i,j) z1 u).2 (k,i,j) (toP ⟨M,na,x,nb,y⟩ (k,i,j) e.1) (M.e e.1).w);rw[<- b6] at E;have a8:z7a ⟨M,na,x,nb,y⟩ (k,i,j) z1 (u++[e])=z2:=z9q.trans b6.symm;have e6:=qh a8;clear b6 a8 S d3 d0 d8;simp only[toP,plV,Int.natCast_add,Int.natCast_one] at E;have a6:=qh E;clear E;rw[hT];simp only[List.setIfInBounds_toArray,List.set_cons_zero,List.set_cons_succ];have q2:=cell_of hq 2 rfl;have b0:=cell_of hb 0 rfl;have b1:=cell_of hb 1 rfl;have b2:=cell_of hb 2 rfl;obtain⟨p0,p1,p2,p3⟩:=d.cells;have H1:=qh d;clear d;have H2:=qh J;clear J;have H3:=qh O;clear O;have e4:=qh a2;clear a2;clear hT hq hb
    gi_wp2_with fail
    refine⟨trivial,(CallsIn.inRound l (callsIn_wide.2 a6.out)).mono ?_⟩;rintro rr W' a1;have H5:=qh (H1.out.rea a1 HB.out HT.out);have b5:=qh a1.2.2.2;obtain rfl:=a1.1;clear a1 a6 q2 b0 b1 b2 p0 p1 p2 p3
    gi_wp2
    have d6:=H2.out.kept b5.out (H1.out.nb H2.out (by decide) (by decide));have c9:=(b5.out.block c (lt_of_block H3.out) (H1.out.nb H3.out (by decide) (by decide))).trans H3.out;have H6:=H5.out;rw[<- e6.out] at H6;exact⟨H1.out.kf b5.out,fun _=>e4.out _ _ H5.out d6 c9,H6,d6,c9⟩
   case done =>
    rintro D xs W hD e7 ⟨d,J,O⟩ hK;rw[y1g e7] at d
    gi_wp2
    refine y1q rfl hK rfl ?_;have h4:=d.own (N:=w.heap.size) (grownBy_putObj' W D (.deferred none)) (fun r e=>by cases e;exact⟨Nat.le_trans hN hD,_,hK,rfl⟩) (Nat.le_refl _) (Nat.le_trans e8 (Nat.le_refl _));rw[HC.out];exact⟨rfl,h4.cu,h4.tm,h4.fr⟩
 have j8:decide (i<na)=false:=by simp;omega
 have HC:=qh (x6c HZ.out f7.out (y8e (P:=⟨M,na,x,nb,y⟩) (p:=(k,i,j)) (s:=(X,e)) (fun h=>hi h.1)));clear hi
 go_wp2_with fail
 go_quiet (fail)
 go_wp2_with fail
 have A:=qh (a7.out.new (Fr.of_below (below_drewN (Below.refl _ w3) nq)));obtain⟨w4,e0⟩:=exq (w3.drewN nq);rw[<- e0] at A ⊢;clear e0;obtain⟨z1,b3⟩:∃ z1:ST,z1=(X,e):=⟨_,rfl⟩;rw[<- b3] at A HC;clear b3;clear t0 t1 t2 t3 t4 t5 p0 p1 p2 p3 a7;obtain⟨t0,t1,t2,t3,t4,t5⟩:=A.out.tm.cells;obtain⟨p0,p1,p2,p3⟩:=A.out.cells;cases hm:((k:Int)==M.most)
 case true =>
  go_wp2_with fail
  go_quiet (fail)
  go_wp2_with fail
  have v:=qh (A.out.new (Fr.of_below (below_drewN (Below.refl _ w4) nq)));refine y2b (.inl rfl) rfl rfl ?_;rw[HC.out,if_pos (eq_of_beq hm)];exact⟨rfl,v.out.cu,v.out.tm,v.out.fr⟩
 case false =>
  have HC:=qh (HC.out.trans (if_neg (fun e=>by have e2:(k:Int)=M.most:=e;rw[e2] at hm;simp at hm)))
  go_wp2_with fail
  go_quiet (fail)
  go_wp2_with fail
  have v:=qh (A.out.new (Fr.of_below (below_drewN (Below.refl _ w4) nq)));obtain⟨L,b7⟩:=exq (w4.drewN nq);rw[<- b7] at v;rw[<- b7];clear b7 A;refine(y1p _).mono ?_;rintro rr w6 ⟨rfl,d1⟩;have a9:=qh d1;clear d1;clear t0 t1 t2 t3 t4 t5 p0 p1 p2 p3
  go_wp2_with fail
  have c7:(L.alloc (.cells #[.pointer (some ⟨tb,0,none⟩)] 62)).heap.size=L.heap.size+1:=by simp
  have c8:Fr (fun _=>False) L (L.alloc (.cells #[.pointer (some ⟨tb,0,none⟩)] 62)):=Fr.alloc _ _;have U:Fr (fun _=>False) (L.alloc (.cells #[.pointer (some ⟨tb,0,none⟩)] 62)) w6:=by rw[a9.out];exact Fr.alloc _ _
  have b8:Bx w6 L.heap.size 62 (.pointer (some ⟨tb,0,none⟩)):=Bx.kept (C:=fun _=>False) (heap_alloc_new L _) U (fun e=>e);have b4:w6.heap[L.heap.size+1]?=some (.cells #[.int .i64 (k:Int),.int .i64 (i:Int),.int .i64 (j:Int)] 70 (0,0)):=by rw[a9.out,<- c7];exact heap_alloc_new _ _
  have a3:=v.out.new (c8.trans U);have hN:w.heap.size<=w6.heap.size:=a3.fr.size;have e8:w0.heap.size<=w.heap.size:=f8.out;have e5:w0.heap.size<=w6.heap.size:=a3.be.size;obtain⟨I,Q⟩:=exq (L.heap.size);obtain⟨c,Z⟩:=exq (L.heap.size+1);rw[<- Z,<- Q];rw[<- Z] at b4;rw[<- Q] at b8;clear c8 U c7 a9 v Q Z;obtain⟨ae,ce,be,oe,EA,H,EC,G,b9,e1,e3,d7,d9,a5⟩:=f2.out.open;have a2:∀ (z:ST) (W:World),StW w0 w tB pB k i j B tb g cap (M.most.toNat+1) (na+1) (nb+1) r s ev xv yv M.most z W->Bx W I 62 (.pointer (some ⟨tb,0,none⟩))->W.heap[c]?=some (.cells #[.int .i64 (k:Int),.int .i64 (i:Int),.int .i64 (j:Int)] 70 (0,0))->ItM W I c tb be oe ce M EA H EC G ae xv yv na nb x y k i j :=
   fun _ _ hs hb hp=>hs.itm hb hp b9 HX.out HY.out a5
  clear b9 a5 d9 e3 d7;refine x6s (fun T hT=>(wpIn_wide (n:=9)).1 ?_);simp only[] at hT;refine wpIn_rangeFunc_ownH (F:=Fence.wide) (n:=9) rfl (by omega) (gf:=130) (lb:=#[.pointer (some ⟨I,0,none⟩),.pointer (some ⟨c,0,none⟩)]) (by rw[hT];rfl) trivial y9k
   (z6q 8 w6 (a2 _ _ a3 b8 b4) e1 HV.out.n4 (by have:=HK.out;have:=HV.out.m6;omega) (Nat.le_of_lt_succ HI.out) (Nat.le_of_lt_succ HJ.out)) (fun h k x=>k (h x)) (fun W l o o' _ hl hc _ h=>h.put o' hl hc) (Below.refl _ _) (fun _=>rfl)
   (fun u W=>StW w0 w tB pB k i j B tb g cap (M.most.toNat+1) (na+1) (nb+1) r s ev xv yv M.most (z7a ⟨M,na,x,nb,y⟩ (k,i,j) z1 u) W/\Bx W I 62 (.pointer (some ⟨tb,0,none⟩))/\W.heap[c]?=some (.cells #[.int .i64 (k:Int),.int .i64 (i:Int),.int .i64 (j:Int)] 70 (0,0)))
   (fun _ _ _=>False) ?own (fun _=>ownFrom_pure _ _) ⟨a3,b8,b4⟩
   (fun e a' W=>∃ Bq Bt,W.heap[Bq]?=some (.cells #[.slice (EA e.1) (M.e e.1).nf (EC e.1),.slice (H e.1) (M.e e.1).nt (G e.1),.string (M.e e.1).w] 50 (0,0)) /\
    W.heap[Bt]?=some (.cells #[.int .i64 ((k:Int)+1),.int .i64 ((i:Int)+((M.e e.1).nf:Int)),.int .i64 ((j:Int)+((M.e e.1).nt:Int))] 70 (0,0)) /\
    a'={ tmps:=(((T.setIfInBounds 70 (.agg #[.slice (EA e.1) (M.e e.1).nf (EC e.1),.slice (H e.1) (M.e e.1).nt (G e.1),.string (M.e e.1).w])).setIfInBounds 71 (.agg #[.int .i64 ((k:Int)+1),.int .i64 ((i:Int)+((M.e e.1).nf:Int)),.int .i64 ((j:Int)+((M.e e.1).nt:Int))])).setIfInBounds 4 (.pointer (some ⟨Bq,0,none⟩))).setIfInBounds 5 (.pointer (some ⟨Bt,0,none⟩)),defers:=[] })
   ?xb ?xa ?xc ?done (fun _ _ _ _ _ _ h=>h.elim)
  case own =>
   rintro u X Y row ⟨d,J,O⟩ hg hr;have hf:Fr (fun q=>row=some q) X Y:=Fr.of_gb hg (fun _ e=>e);exact⟨d.own hg hr hN e5,J.kept hf (fun e=>by obtain⟨_,o,ho,hc⟩:=hr _ e;exact z1s ho hc J rfl),(hf.block c (lt_of_block O) (fun e=>by obtain⟨_,o,ho,hc⟩:=hr _ e;exact z1s ho hc O rfl)).trans O⟩
  case xb =>
   rintro e a' _ X Y row ⟨Bq,Bt,d,J,O⟩ hg hr;have hf:Fr (fun q=>row=some q) X Y:=Fr.of_gb hg (fun _ e=>e);exact⟨Bq,Bt,(hf.block Bq (lt_of_block d) (fun e=>by obtain⟨_,o,ho,hc⟩:=hr _ e;exact z1s ho hc d rfl)).trans d,(hf.block Bt (lt_of_block J) (fun e=>by obtain⟨_,o,ho,hc⟩:=hr _ e;exact z1s ho hc J rfl)).trans J,O⟩
  case xa =>
   rintro l u e W K ⟨d,J,O⟩ hK;rw[hT] at hK ⊢;simp only[encE,toP,plV,Int.natCast_add,Int.natCast_one] at hK ⊢
   gi_wp2
   have a4:=Fr.alloc (C:=fun _=>False) W (.cells #[.slice (EA e.1) (M.e e.1).nf (EC e.1),.slice (H e.1) (M.e e.1).nt (G e.1),.string (M.e e.1).w] 50);have c6:(W.alloc (.cells #[.slice (EA e.1) (M.e e.1).nf (EC e.1),.slice (H e.1) (M.e e.1).nt (G e.1),.string (M.e e.1).w] 50)).heap.size=W.heap.size+1:=by simp
   have R:=Fr.alloc (C:=fun _=>False) (W.alloc (.cells #[.slice (EA e.1) (M.e e.1).nf (EC e.1),.slice (H e.1) (M.e e.1).nt (G e.1),.string (M.e e.1).w] 50)) (.cells #[.int .i64 ((k:Int)+1),.int .i64 ((i:Int)+((M.e e.1).nf:Int)),.int .i64 ((j:Int)+((M.e e.1).nt:Int))] 70);have d2:=d.new (a4.trans R);have d4:=J.kept (a4.trans R) (fun e=>e);have d5:=((a4.trans R).block c (lt_of_block O) (fun e=>e)).trans O;refine hK _ _ (d.kf ((a4.trans R).mono (fun _ _ e=>e.elim))) (fun _=>a2 _ _ d2 d4 d5) ⟨d2,d4,d5⟩ ⟨W.heap.size,W.heap.size+1,(R.block _ (by rw[c6];exact Nat.lt_succ_self _) (fun e=>e)).trans (heap_alloc_new W _),by rw[<- c6];exact heap_alloc_new _ _,?_⟩;simp only[List.setIfInBounds_toArray,List.set_cons_zero,List.set_cons_succ]
  case xc =>
   rintro l u e a' W _ _ ⟨d,J,O⟩ ⟨Bq,Bt,hq,hb,rfl⟩ _;have S:=z7t.1 e.2.2;have d3:i+(M.e e.1).nf<na+1:=Nat.lt_succ_of_le S.1.1;have d0:j+(M.e e.1).nt<nb+1:=Nat.lt_succ_of_le S.2.1;have d8:k+1<M.most.toNat+1:=by
    have h5:=HK.out;have h6:=HV.out.m0;have h7:(k:Int)≠M.most:=fun e=>by rw[e] at hm;simp at hm
    omega
   have E:=z8y (p:=(k,i,j)) (q:=toP ⟨M,na,x,nb,y⟩ (k,i,j) e.1) (wt:=(M.e e.1).w) W d.cu d.tm ⟨HK.out,HI.out,HJ.out⟩ ⟨d8,d3,d0⟩ (by have:=f4.out.w e.1;unfold smS;omega) (f0.out.below d.be (Nat.le_refl _));obtain⟨z2,b6⟩:=exq (reaC (z7a ⟨M,na,x,nb,y⟩ (k,i,j) z1 u).1 (z7a ⟨M,na,x,nb,y⟩ (k,i,j) z1 u).2 (k,i,j) (toP ⟨M,na,x,nb,y⟩ (k,i,j) e.1) (M.e e.1).w);rw[<- b6] at E;have a8:z7a ⟨M,na,x,nb,y⟩ (k,i,j) z1 (u++[e])=z2:=z9q.trans b6.symm;have e6:=qh a8;clear b6 a8 S d3 d0 d8;simp only[toP,plV,Int.natCast_add,Int.natCast_one] at E;have a6:=qh E;clear E;rw[hT];simp only[List.setIfInBounds_toArray,List.set_cons_zero,List.set_cons_succ];have q2:=cell_of hq 2 rfl;have b0:=cell_of hb 0 rfl;have b1:=cell_of hb 1 rfl;have b2:=cell_of hb 2 rfl;obtain⟨p0,p1,p2,p3⟩:=d.cells;have H1:=qh d;clear d;have H2:=qh J;clear J;have H3:=qh O;clear O;have e4:=qh a2;clear a2;clear hT hq hb
   gi_wp2_with fail
   refine⟨trivial,(CallsIn.inRound l (callsIn_wide.2 a6.out)).mono ?_⟩;rintro rr W' a1;have H5:=qh (H1.out.rea a1 HB.out HT.out);have b5:=qh a1.2.2.2;obtain rfl:=a1.1;clear a1 a6 q2 b0 b1 b2 p0 p1 p2 p3
   gi_wp2
   have d6:=H2.out.kept b5.out (H1.out.nb H2.out (by decide) (by decide));have c9:=(b5.out.block c (lt_of_block H3.out) (H1.out.nb H3.out (by decide) (by decide))).trans H3.out;have H6:=H5.out;rw[<- e6.out] at H6;exact⟨H1.out.kf b5.out,fun _=>e4.out _ _ H5.out d6 c9,H6,d6,c9⟩
  case done =>
   rintro D xs W hD e7 ⟨d,J,O⟩ hK;rw[y1g e7] at d
   gi_wp2
   refine y1q rfl hK rfl ?_;have h4:=d.own (N:=w.heap.size) (grownBy_putObj' W D (.deferred none)) (fun r e=>by cases e;exact⟨Nat.le_trans hN hD,_,hK,rfl⟩) (Nat.le_refl _) (Nat.le_trans e8 (Nat.le_refl _));rw[HC.out];exact⟨rfl,h4.cu,h4.tm,h4.fr⟩
end
section
open Go.RowKit Go.Deep
theorem x8x:(prog.info? 87).map (fun i=>(i.zero,i.size,i.bytes))=some (some (.agg #[.string ⟨#[]⟩,.slice none 0 0]),2,40):=by kernel_rfl
theorem v6j:(prog.info? 83).map (fun i=>(i.zero,i.size,i.bytes))=some (some (.agg #[.int .i64 0,.int .i64 0,.string ⟨#[]⟩,.int .i64 0]),4,40):=by kernel_rfl
theorem z4u {o:Option TypeInfo} {z:Value} {s b:Nat} (h:o.map (fun i=>(i.zero,i.size,i.bytes))=some (some z,s,b)):∃ i,o=some i/\i.zero=some z/\i.size=s/\i.bytes=b:=by
 cases o with
 | none=>cases h
 | some i=>simp at h;exact⟨i,rfl,h.1,h.2.1,h.2.2⟩
def RowB (w:World) (q:Nat):Prop:=∃ cs t fr,w.heap[q]?=some (.cells cs t fr)/\(t=87\/t=83)
structure Kt (db:Nat) (w w':World):Prop where
 os:w'.os=w.os
 tape:w'.tape=w.tape
 output:w'.output=w.output
 size:w.heap.size<=w'.heap.size
 block:∀ q,q<w.heap.size->q≠db->¬ RowB w q->w'.heap[q]?=w.heap[q]?
theorem Kt.refl (db:Nat) (w:World):Kt db w w:=⟨rfl,rfl,rfl,Nat.le_refl _,fun _ _ _ _=>rfl⟩
theorem Kt.trans {db:Nat} {w i g:World} (h:Kt db w i) (k:Kt db i g):Kt db w g :=
 ⟨k.os.trans h.os,k.tape.trans h.tape,k.output.trans h.output,Nat.le_trans h.size k.size,fun q j c d=>(k.block q (by have:=h.size;omega) c (fun ⟨o,t,fr,p,l⟩=>d ⟨o,t,fr,by rw[<- h.block q j c d];exact p,l⟩)).trans (h.block q j c d)⟩
theorem Kt.of_fr {db:Nat} {w c:World} (h:Fr (fun q=>q=db) w c):Kt db w c:=⟨h.os,h.tape,h.output,h.size,fun q d g _=>h.block q d g⟩
theorem Kt.of_own {db B:Nat} {w j:World} {e:TypeId} {s n:Nat} {v:Value} {xs:List Value} (h:w.ownsRow B e s v n xs) (o:e=87\/e=83) (c:w.grownBy j v.ownBlock):Kt db w j :=
 ⟨c.os,c.tape,c.output,c.size,fun q r _ l=>c.block q r (fun e2=>by
  rcases h.2 with ⟨rfl,_⟩|⟨g,p,d,rfl,_,i,_⟩
  ·cases e2
  have k:q=g:=by simpa [Value.ownBlock] using e2
  subst k;exact l ⟨d,e,_,i,o⟩)⟩
theorem z3d {w:World} {B:Nat} {e t:TypeId} {s n b:Nat} {v:Value} {xs:List Value} {cs:Array Value} {fr:Nat × Nat} (h:w.ownsRow B e s v n xs) (hb:w.heap[b]?=some (.cells cs t fr)) (i:t≠e):v.ownBlock≠some b:=by
 rcases h.2 with ⟨rfl,_⟩|⟨g,j,k,rfl,_,d,_⟩
 ·simp[Value.ownBlock]
 intro c;simp[Value.ownBlock] at c;subst c;rw[d] at hb;simp at hb;exact i hb.2.1.symm
structure Drw (w:World) (B db:Nat) (D:MD) (R:Nat->Value) (sv:Value):Prop where
 blk:w.heap[db]?=some (.cells #[.int .i64 (D.n:Int),.int .i64 D.kind,.int .i64 D.start,.string D.lead,sv] 79 (0,0))
 own:OwM w B sv D R
 low:B<=db
theorem Drw.lt {w:World} {B db:Nat} {D:MD} {R:Nat->Value} {sv:Value} (h:Drw w B db D R sv):db<w.heap.size:=(Array.getElem?_eq_some_iff.1 h.blk).1
theorem BlkD.c0 {w:World} {db:Nat} {c v1 g d i:Value} {t:TypeId} (h:w.heap[db]?=some (.cells #[c,v1,g,d,i] t (0,0))):w.cell? ⟨db,0,none⟩=some c:=by simp[World.cell?,h]
theorem BlkD.c4 {w:World} {db:Nat} {i v1 g d c:Value} {t:TypeId} (h:w.heap[db]?=some (.cells #[i,v1,g,d,c] t (0,0))):w.cell? ⟨db,4,none⟩=some c:=by simp[World.cell?,h]
theorem BlkD.fz {w:World} {db:Nat} {i v1 d c g:Value} {t:TypeId} (h:w.heap[db]?=some (.cells #[i,v1,d,c,g] t (0,0))) (j:Nat):w.frozen? ⟨db,j,none⟩=false:=by simp[World.frozen?,h]
def DrE (B db:Nat) (D':MD) (w w':World):Prop:=(∃ R' sv',Drw w' B db D' R' sv')/\Below B w w'/\Kt db w w'
theorem v1r {db:Nat} {n:Nat} (w:World) (c:w.cell? ⟨db,0,none⟩=some (.int .i64 (n:Int))) (d:w.frozen? ⟨db,0,none⟩=false) (hn:n<=100000) :
  Calls prog 103 #[.pointer (some ⟨db,0,none⟩)] w (fun r w'=>r=.returned (.int .i64 (n:Int))/\w'=w.setCell ⟨db,0,none⟩ (.int .i64 ((n+1:Nat):Int))):=by
 have g:(w.setCell ⟨db,0,none⟩ (.int .i64 ((n:Int)+1))).cell? ⟨db,0,none⟩=some (.int .i64 ((n:Int)+1)):=World.cell?_setCell_same' _ _ _ (by rw[c];rfl)
 go_enter func103,ntmps103
 go_wp2_with fail
 go_ret;exact⟨rfl,rfl⟩
theorem y6e {w:World} {b:Nat} {cs:Array Value} {t:TypeId} {fr:Nat × Nat} (h:w.heap[b]?=some (.cells cs t fr)):∀ j u,cs.toList[j]?=some u->w.cell? ((⟨b,0,none⟩:Addr).add j)=some u:=by
 intro j u c;rw[Addr.add_lit,Nat.zero_add];simp[World.cell?,h]
 simpa using c
theorem u2g {f:ByteArray}:∀ u ∈ [Value.string f,Value.slice none 0 0],u.oneCell'=true:=by intro u c;simp at c;rcases c with rfl|rfl<;>rfl
theorem y8g {B db:Nat} {D:MD} {R:Nat->Value} {sv:Value} (f:ByteArray) (w:World) (h:Drw w B db D R sv) (hB:B<=w.heap.size) (hn:D.n<=100000) :
  Calls prog 50 #[.pointer (some ⟨db,0,none⟩),.string f] w (fun r w'=>r=.returned (.int .i64 (D.n:Int))/\DrE B db (D.state f) w w'):=by
 obtain⟨i0,hi,U,S,P⟩:=z4u x8x;obtain⟨F,g⟩:=exq (w.alloc (.cells #[.string f,.slice none 0 0] 87));obtain⟨H,Z⟩:=exq (w.heap.size);have Y:w.grownBy F none:=by rw[g];exact World.grownBy_alloc _ _ _
 have u:F.ownsRow B 87 2 sv D.n (cat (st2 D R) D.n):=by rw[g];exact World.ownsRow.alloc h.own.top _
 have O:F.heap[H]?=some (.cells #[.string f,.slice none 0 0] 87 (0,0)):=by rw[g,Z];exact heap_alloc_new w _
 have o:F.heap[db]?=some (.cells #[.int .i64 (D.n:Int),.int .i64 D.kind,.int .i64 D.start,.string D.lead,sv] 79 (0,0)):=by rw[g,blk_alloc_lt _ _ _ h.lt];exact h.blk
 have c4:F.cell? ⟨db,4,none⟩=some sv:=by simp[World.cell?,o]
 have b5:w.cell? ⟨db,4,none⟩=some sv:=by simp[World.cell?,h.blk]
 have b7:F.heap.size=H+1:=by rw[g,Z];simp
 obtain⟨sa,sc,a6,_,_⟩:=z5r h.own.top;subst a6;have E:∀ A,(w.alloc (.cells #[.string f,.slice none 0 0] 87)).grownBy A (Value.slice sa D.n sc).ownBlock->A.heap[db]?=some (.cells #[.int .i64 (D.n:Int),.int .i64 D.kind,.int .i64 D.start,.string D.lead,.slice sa D.n sc] 79 (0,0)):=fun A hg=>by
  rw[<- g] at hg;exact(hg.block db (lt_of_block o) (fun e=>z3d u o (by decide) e.symm)).trans o
 have N:=qh E;clear E;have I:=qh h;clear h;have b0:=qh u;clear u;have b2:=qh O;clear O;have b1:=qh o;clear o;have b8:=qh Y;clear Y;have HI:=qh hi;have a1:=qh U;have a5:=qh S;have a8:=qh P;clear hi U S P;have b3:=qh Z;clear Z;have b4:=qh g
 go_enter func50,ntmps50
 go_wp2_with (at_builtin;refine wpList_append_lies _ rfl (.tmp 10) (.tmp 13) 34 rfl B 87 i0 (.agg #[.string ⟨#[]⟩,.slice none 0 0]) 2 40 underlying34 HI.out a1.out a5.out a8.out rfl (by omega) (.slice sa D.n sc) D.n _ (by first|rfl|simp[Act.eval,Act.put]) (World.ownsRow.alloc I.out.own.top _) ⟨w.heap.size,0,none⟩ 1 1 [.string f,.slice none 0 0] (by first|rfl|simp[Act.eval,Act.put]) rfl (y6e (cs:=#[.string f,.slice none 0 0]) (heap_alloc_new w _)) u2g (by omega) (by unfold maxLen;omega) (by omega) (by simp;omega) _ rfl ?_;intro L cp A s c a7 a9;have l:=N.out A c;have e4:=BlkD.c4 l;have f4:=BlkD.fz l 4)
 have d:A.ownsRow B 87 2 (.slice (some ⟨L,0,none⟩) (D.n+1) cp) (D.n+1) (cat (st2 D R) D.n++[.string f,.slice none 0 0]):=s;have K:=I.out.own.state d c;have Q:(Value.slice (some ⟨L,0,none⟩) (D.n+1) cp).ownBlock≠some db:=z3d d l (by decide);have T:∀ i,i<(D.state f).n->((fun i=>if i=D.n then Value.slice none 0 0 else R i) i).ownBlock≠some db:=fun i hi=>z3d (K.row i hi) l (by decide)
 obtain⟨C,j⟩:=exq (A.setCell ⟨db,4,none⟩ (.slice (some ⟨L,0,none⟩) (D.n+1) cp));have z:OwM C B (.slice (some ⟨L,0,none⟩) (D.n+1) cp) (D.state f) (fun i=>if i=D.n then .slice none 0 0 else R i):=by rw[j];exact K.other (p:=⟨db,4,none⟩) Q T _
 have v:C.heap[db]?=some (.cells #[.int .i64 (D.n:Int),.int .i64 D.kind,.int .i64 D.start,.string D.lead,.slice (some ⟨L,0,none⟩) (D.n+1) cp] 79 (0,0)):=by rw[j];simp[World.setCell,Array.getElem?_modify,l]
 have X:Kt db w C:=by
  have h1:Kt db w (w.alloc (.cells #[.string f,.slice none 0 0] 87)):=Kt.of_fr (Fr.alloc _ _);have h2:=Kt.of_own (db:=db) (World.ownsRow.alloc I.out.own.top (.cells #[.string f,.slice none 0 0] 87)) (.inl rfl) c;rw[j];exact(h1.trans h2).trans (Kt.of_fr ((Fr.refl (fun q=>q=db) A).set (p:=⟨db,4,none⟩) (.inl rfl) _))
 have W:Below B w C:=by
  rw[j];exact((((Below.refl B w).alloc hB (.cells #[.string f,.slice none 0 0] 87)).grown c (by simp;omega) (fun k hk=>(World.ownsRow.lt (World.ownsRow.alloc I.out.own.top (.cells #[.string f,.slice none 0 0] 87)) k hk).1)).setCell (p:=⟨db,4,none⟩) I.out.low _)
 have a3:=qh (v1r C (BlkD.c0 v) (BlkD.fz v 0) hn);have J:=qh z;clear z K;have G:=qh v;clear v l;have a2:=qh X;clear X;have a4:=qh W;clear W d s c a7 a9 Q T;rw[<- j];have b6:=qh j;clear j;refine a3.out.mono ?_;rintro r wx ⟨rfl,rfl⟩
 go_wp2_with fail
 go_ret;refine⟨rfl,⟨(fun i=>if i=D.n then .slice none 0 0 else R i),.slice (some ⟨L,0,none⟩) (D.n+1) cp,⟨?_,?_,I.out.low⟩⟩,a4.out.setCell (p:=⟨db,0,none⟩) I.out.low _,a2.out.trans (Kt.of_fr ((Fr.refl (fun q=>q=db) C).set (p:=⟨db,0,none⟩) (.inl rfl) _))⟩
 ·simp[World.setCell,Array.getElem?_modify,G.out];exact⟨rfl,rfl,rfl,rfl⟩
 exact J.out.other (p:=⟨db,0,none⟩) (z3d J.out.top G.out (by decide)) (fun i hi=>z3d (J.out.row i hi) G.out (by decide)) _
theorem v7d {a b t:Int} {x:ByteArray}:∀ u ∈ [Value.int .i64 a,Value.int .i64 b,Value.string x,Value.int .i64 t],u.oneCell'=true:=by intro u c;simp at c;rcases c with rfl|rfl|rfl|rfl<;>rfl
theorem x0e {B db q:Nat} {D:MD} {R:Nat->Value} {sv:Value} (a b t:Int) (x:ByteArray) (w:World) (h:Drw w B db D R sv) (hB:B<=w.heap.size) (hq:q<D.n) (hn:D.n<=100000) (f4:D.na q<=100000) :
  Calls prog 51 #[.pointer (some ⟨db,0,none⟩),.int .i64 (q:Int),.agg #[.int .i64 a,.int .i64 b,.string x,.int .i64 t]] w (fun r w'=>r=.returned (.tuple #[])/\DrE B db (D.arc q a b x t) w w'):=by
 obtain⟨i0,hi,c6,b9,d1⟩:=z4u v6j;have f1:(q:Int)<(D.n:Int):=by omega
 have f0:(0:Int)<=(q:Int):=by omega
 obtain⟨g,cp,rfl,_,_,_,_⟩:=y1w h.own.top (by omega);obtain⟨ra,rc,b1,_,_⟩:=z5r (h.own.row q hq);obtain⟨w1,P⟩:=exq (w.alloc (.cells #[.int .i64 a,.int .i64 b,.string x,.int .i64 t] 83));obtain⟨l,u⟩:=exq (w1.drew);obtain⟨H,hH⟩:=exq (w.heap.size);have a6:l.heap.size=H+1:=by rw[u,P,hH];simp
 have a4:Fr (fun _=>False) w l:=by rw[u,P];exact(Fr.alloc _ _).drew
 have Q:l.heap[H]?=some (.cells #[.int .i64 a,.int .i64 b,.string x,.int .i64 t] 83 (0,0)):=by rw[u,P,hH];exact heap_alloc_new w _
 have a5:l.heap[db]?=some (.cells #[.int .i64 (D.n:Int),.int .i64 D.kind,.int .i64 D.start,.string D.lead,.slice (some ⟨g,0,none⟩) D.n cp] 79 (0,0)):=(a4.block db h.lt (fun e=>e)).trans h.blk;have Y:OwM l B (.slice (some ⟨g,0,none⟩) D.n cp) D R:=h.own.kept (z:=none) (Fr.gb (a4.mono (fun _ _ e=>e.elim))) (by simp);have j:l.cell? ⟨db,4,none⟩=some (.slice (some ⟨g,0,none⟩) D.n cp)/\l.cell? ⟨g,q*2+1,none⟩=some (.slice ra (D.na q) rc)/\l.cell? ⟨H,0,none⟩=some (.int .i64 a)/\l.cell? ⟨H,1,none⟩=some (.int .i64 b)/\l.cell? ⟨H,2,none⟩=some (.string x)/\l.cell? ⟨H,3,none⟩=some (.int .i64 t) :=
  ⟨BlkD.c4 a5,by rw[Y.arcs_cell hq,b1],by simp[World.cell?,Q],by simp[World.cell?,Q],by simp[World.cell?,Q],by simp[World.cell?,Q]⟩
 have b0:∀ i,i<D.n->(R i).ownBlock≠some db:=fun i hi=>z3d (Y.row i hi) a5 (by decide);have a7:(R q).ownBlock≠some g:=fun e=>Y.tne hq e rfl;have HI:=qh hi;have d7:=qh c6;have e1:=qh b9;have e5:=qh d1;clear hi c6 b9 d1;have HH:=qh h;clear h;have U:=qh Y;clear Y;have b3:=qh a5;clear a5;have f2:=qh Q;clear Q;have b8:=qh a4;clear a4;have b5:=qh b1;clear b1;have b7:=qh b0;clear b0;have a1:=qh a7;clear a7
 go_enter func51,ntmps51
 go_wp2_with fail
 refine z0g (fun T=>T.cell? ⟨db,4,none⟩=some (.slice (some ⟨g,0,none⟩) D.n cp)/\T.cell? ⟨g,q*2+1,none⟩=some (.slice ra (D.na q) rc)/\T.cell? ⟨H,0,none⟩=some (.int .i64 a)/\T.cell? ⟨H,1,none⟩=some (.int .i64 b)/\T.cell? ⟨H,2,none⟩=some (.string x)/\T.cell? ⟨H,3,none⟩=some (.int .i64 t)) 20 (by kernel_rfl) ?_;rw[<- P,<- u,<- hH];have f9:=qh P;clear P;have e8:=qh u;clear u;have b4:=qh hH;clear hH;refine z0b.tl 0 j (v:=?ze) ?xj ?yd
 case xj=>rintro E ⟨s1,s2,I,C,G,F⟩;go_simp;try with_reducible rfl
 refine z0b.tl 1 j (v:=?yy) ?xu ?yg
 case xu=>rintro E ⟨s1,s2,I,C,G,F⟩;go_simp;try with_reducible rfl
 refine z0b.tl 2 j (v:=?yx) ?xv ?ym
 case xv=>rintro E ⟨s1,s2,I,C,G,F⟩;go_simp;try with_reducible rfl
 refine z0b.tl 3 j (v:=?yw) ?xs ?yk
 case xs=>rintro E ⟨s1,s2,I,C,G,F⟩;go_simp;try with_reducible rfl
 refine z0b.tl 4 j (v:=?yz) ?xl ?yl
 case xl=>rintro E ⟨s1,s2,I,C,G,F⟩;go_simp;try with_reducible rfl
 refine z0b.tl 5 j (v:=?yv) ?xx ?yc
 case xx=>rintro E ⟨s1,s2,I,C,G,F⟩;go_simp;try with_reducible rfl
 refine z0b.tl 6 j (v:=?zd) ?xn ?yh
 case xn=>rintro E ⟨s1,s2,I,C,G,F⟩;go_simp;try with_reducible rfl
 refine z0b.tl 7 j (v:=?zc) ?xw ?yi
 case xw=>rintro E ⟨s1,s2,I,C,G,F⟩;go_simp;try with_reducible rfl
 refine z0b.tl 8 j (v:=?zb) ?xk ?yf
 case xk=>rintro E ⟨s1,s2,I,C,G,F⟩;go_simp;try with_reducible rfl
 refine z0b.tl 9 j (v:=?za) ?xr ?yj
 case xr=>rintro E ⟨s1,s2,I,C,G,F⟩;go_simp;try with_reducible rfl
 refine z0b.tl 10 j (v:=?yt) ?xf ?xq
 case xf=>rintro E ⟨s1,s2,I,C,G,F⟩;go_simp;try with_reducible rfl
 refine z0b.tl 11 j (v:=?yp) ?xa ?xm
 case xa=>rintro E ⟨s1,s2,I,C,G,F⟩;go_simp;try with_reducible rfl
 refine z0b.tl 12 j (v:=?yr) ?xg ?xp
 case xg=>rintro E ⟨s1,s2,I,C,G,F⟩;go_simp;try with_reducible rfl
 refine z0b.tl 13 j (v:=?ys) ?xd ?xt
 case xd=>rintro E ⟨s1,s2,I,C,G,F⟩;go_simp;try with_reducible rfl
 refine z0b.tl 14 j (v:=?yo) ?xc ?ya
 case xc=>rintro E ⟨s1,s2,I,C,G,F⟩;go_simp;try with_reducible rfl
 refine z0b.tl 15 j (v:=?yn) ?xb ?yb
 case xb=>rintro E ⟨s1,s2,I,C,G,F⟩;go_simp;try with_reducible rfl
 try simp only[Act.put,tryL]
 refine z0b.on 16 fun K hK=>?_;go_simp;obtain⟨O,L⟩:=exq (l.alloc (.cells #[.int .i64 a,.int .i64 b,.string x,.int .i64 t] 83));have s:l.grownBy O none:=by rw[L];exact World.grownBy_alloc _ _ _
 have d0:O.heap[H+1]?=some (.cells #[.int .i64 a,.int .i64 b,.string x,.int .i64 t] 83 (0,0)):=by rw[L,<- a6];exact heap_alloc_new l _
 have f5:O.heap.size=H+1+1:=by rw[L];simp[a6]
 have W:O.cell? ⟨db,4,none⟩=some (.slice (some ⟨g,0,none⟩) D.n cp)/\O.cell? ⟨g,q*2+1,none⟩=some (.slice ra (D.na q) rc)/\O.cell? ⟨H,0,none⟩=some (.int .i64 a)/\O.cell? ⟨H,1,none⟩=some (.int .i64 b)/\O.cell? ⟨H,2,none⟩=some (.string x)/\O.cell? ⟨H,3,none⟩=some (.int .i64 t) :=
  ⟨s.cell j.1 (by simp),s.cell j.2.1 (by simp),s.cell j.2.2.1 (by simp),s.cell j.2.2.2.1 (by simp),s.cell j.2.2.2.2.1 (by simp),s.cell j.2.2.2.2.2 (by simp)⟩
 have N:O.ownsRow B 83 4 (.slice ra (D.na q) rc) (D.na q) (cat (arc4 D q) (D.na q)):=by rw[L,<- b5.out];exact World.ownsRow.alloc (U.out.row q hq) _
 have c8:B<=O.heap.size:=by have:=b4.out;omega
 rw[<- L];have a3:=qh L;clear L;have e3:=qh d0;clear d0;refine hK.out _ _ (.inr W) ?_;clear hK K
 try simp only[Act.put,tryL]
 refine z0b.on 17 fun K hK=>?_;refine wp_append_lies _ (.tmp 20) (.tmp 22) 85 rfl B 83 i0 (.agg #[.int .i64 0,.int .i64 0,.string ⟨#[]⟩,.int .i64 0]) 4 40 underlying85 HI.out d7.out e1.out e5.out rfl (by omega) (.slice ra (D.na q) rc) (D.na q) _ (by simp[Act.eval]) N ⟨H+1,0,none⟩ 1 1 [.int .i64 a,.int .i64 b,.string x,.int .i64 t] (by simp[Act.eval]) rfl (y6e (cs:=#[.int .i64 a,.int .i64 b,.string x,.int .i64 t]) e3.out) v7d (by omega) (by unfold maxLen;omega) (by omega) c8 _ rfl ?_;intro go cq J Z A c7 e6;have d:O.grownBy J (R q).ownBlock:=by rw[b5.out];exact A
 have a2:J.heap[db]?=some (.cells #[.int .i64 (D.n:Int),.int .i64 D.kind,.int .i64 D.start,.string D.lead,.slice (some ⟨g,0,none⟩) D.n cp] 79 (0,0)) :=
  (d.block db (by have:=lt_of_block b3.out;have:=s.size;omega) (fun e=>b7.out q hq e.symm)).trans ((s.block db (lt_of_block b3.out) (by simp)).trans b3.out)
 have f7:g<l.heap.size:=(World.ownsRow.lt U.out.top g rfl).2;have e4:J.cell? ⟨g,q*2+1,none⟩=some (.slice ra (D.na q) rc):=d.cell W.2.1 (fun e=>a1.out e.symm);have c9:∀ c,(Value.slice (some ⟨go,0,none⟩) (D.na q+1) cq).ownBlock=some c->(R q).ownBlock=some c\/l.heap.size<=c:=fun c hc=>by
  have e:go=c:=by simpa [Value.ownBlock] using hc
  subst e
  rcases c7 with X|X
  ·exact .inl (by rw[b5.out];exact X)
  right;omega
 have a8:=U.out.arc (a:=a) (b:=b) (x:=x) (t:=t) (v':=.slice (some ⟨go,0,none⟩) (D.na q+1) cq) hq Z (o:=.cells #[.int .i64 a,.int .i64 b,.string x,.int .i64 t] 83) (by rw[<- a3.out];exact d) c9;have f8:J.frozen? ⟨g,q*2+1,none⟩=false:=by
  have X:J.ownsRow B 87 2 (.slice (some ⟨g,0,none⟩) D.n cp) D.n (cat (st2 D R) D.n):=z2g (by rw[a3.out];exact World.ownsRow.alloc U.out.top _) d (fun c hc e=>by
   have e2:g=c:=by simpa [Value.ownBlock] using hc
   subst e2;exact a1.out e)
  exact x4p X _
 have b2:J.cell? ⟨db,4,none⟩=some (.slice (some ⟨g,0,none⟩) D.n cp)/\J.cell? ⟨g,q*2+1,none⟩=some (.slice ra (D.na q) rc)/\J.cell? ⟨H,0,none⟩=some (.int .i64 a)/\J.cell? ⟨H,1,none⟩=some (.int .i64 b)/\J.cell? ⟨H,2,none⟩=some (.string x)/\J.cell? ⟨H,3,none⟩=some (.int .i64 t):=by
  have S:some H≠(R q).ownBlock:=fun e=>by have:=(World.ownsRow.lt (HH.out.own.row q hq) H e.symm).2;rw[<- b4.out] at this;omega
  exact⟨BlkD.c4 a2,e4,d.cell W.2.2.1 S,d.cell W.2.2.2.1 S,d.cell W.2.2.2.2.1 S,d.cell W.2.2.2.2.2 S⟩
 have d5:Kt db w J:=by
  have h2:=Kt.of_own (db:=db) (N) (.inr rfl) A;exact((Kt.of_fr (b8.out.mono (fun _ _ e=>e.elim))).trans (Kt.of_fr (Fr.of_gb s (by simp)))).trans h2
 have d4:Below B w J:=((b8.out.below hB (fun _ e=>e.elim)).trans (((Below.refl B l).alloc (by have:=b4.out;omega) _))).grown (by rw[<- a3.out];exact A) (by rw[<- a3.out];exact c8) (fun k hk=>(World.ownsRow.lt N k hk).1);have d2:=qh a8;clear a8;have a9:=qh a2;clear a2;have d8:=qh d5;clear d5;have e0:=qh d4;clear d4;have d3:∃ cs fr,J.heap[g]?=some (.cells cs 87 fr):=by
  have X:J.ownsRow B 87 2 (.slice (some ⟨g,0,none⟩) D.n cp) D.n (cat (st2 D R) D.n):=z2g (by rw[a3.out];exact World.ownsRow.alloc U.out.top _) d (fun c hc e=>by
   have e2:g=c:=by simpa [Value.ownBlock] using hc
   subst e2;exact a1.out e)
  rcases X.2 with ⟨hv,_⟩|⟨g',e9,d6,hv,_,d9,_⟩
  ·cases hv
  cases hv;exact⟨d6,_,d9⟩
 have b6:=qh d3;clear d3;clear Z A d c7 e6 c9 N s;refine hK.out _ _ (.inr b2) ?_;clear hK K
 try simp only[Act.put,tryL]
 refine z0b.tl 18 b2 (v:=?yq) ?xh ?xz
 case xh=>rintro E ⟨s1,s2,I,C,G,F⟩;go_simp;try with_reducible rfl
 refine z0b.tl 19 b2 (v:=?yu) ?xi ?xo
 case xi=>rintro E ⟨s1,s2,I,C,G,F⟩;go_simp;try with_reducible rfl
 try simp only[Act.put,tryL]
 refine z0b.on 20 fun K hK=>?_;go_simp;refine hK.out _ _ (.inl rfl) (z0b.done (by kernel_rfl) ?_ _);clear hK K
 go_wp2_with fail
 go_end0
 have e7:B<=g:=(World.ownsRow.lt U.out.top g rfl).1;refine⟨rfl,⟨_,_,⟨?_,d2.out,HH.out.low⟩⟩,e0.out.setCell (p:=⟨g,q*2+1,none⟩) e7 _,d8.out.trans ⟨rfl,rfl,rfl,by rw[nblk_setCell];exact Nat.le_refl _,fun k hk hd hr=>blk_setCell_other _ _ _ _ (fun e=>?_)⟩⟩
 ·have S:db≠g:=fun e=>by
   obtain⟨cs,fr,X⟩:=b6.out;rw[<- e,a9.out] at X;simp at X
  rw[x0t (show db≠g from S)];exact a9.out
 subst e;obtain⟨cs,fr,X⟩:=b6.out;exact hr ⟨cs,_,fr,X,.inl rfl⟩
end
end Go.Proofs.YtjekapjbigfkbaaGreatDoor
