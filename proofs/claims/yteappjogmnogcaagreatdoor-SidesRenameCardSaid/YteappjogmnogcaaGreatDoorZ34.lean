/- Parts. -/
import Derived.Test.YteappjogmnogcaaGreatDoorZ24
import Derived.Test.YteappjogmnogcaaGreatDoorZ25
namespace Go.Proofs.YteappjogmnogcaaGreatDoor
set_option maxRecDepth 100000
set_option linter.all false
set_option maxHeartbeats 16000000
open Go Tryz
section
open Go.RowKit Go.Deep
variable{B cp g:Nat}{M:MD}{F:Nat->Prop}{d w:World}
def RvS(F:Nat->Prop)(B g cp:Nat)(M:MD)(w:World):Prop:=∃R,OwM w B (.slice (some (Ad g 0)) M.n cp) M R/\∀b,F b->Fre w (.slice (some (Ad g 0)) M.n cp) R M.n b
def RvN(F:Nat->Prop)(B g cp:Nat)(M:MD)(w w':World):Prop:=RvS F B g cp M w'/\(∀b,F b->w'.heap[b]?=w.heap[b]?)/\Below B w w'
def RvS.sub{c:Nat->Prop}(h:RvS F B g cp M w)(j:∀b,c b->F b):RvS c B g cp M w:=by
 obtain⟨R,d,i⟩:=h;exact⟨R,d,λb hb=>i b (j b hb)⟩
theorem RvN.trans{F:Nat->Prop}{B g cp:Nat}{M M':MD}{w d i:World}(h:RvN F B g cp M w d)(c:RvN F B g cp M' d i):RvN F B g cp M' w i :=
 ⟨c.1,λb hb=>(c.2.1 b hb).trans (h.2.1 b hb),h.2.2.trans c.2.2⟩
theorem RvN.sub{F c:Nat->Prop}{B g cp:Nat}{M:MD}{w i:World}(h:RvN F B g cp M w i)(d:∀b,c b->F b):RvN c B g cp M w i:=⟨h.1.sub d,λb hb=>h.2.1 b (d b hb),h.2.2⟩
def RvN.refl(h:RvS F B g cp M w):RvN F B g cp M w w:=⟨h,λ_ _=>rfl,blr⟩
def RvS.lt(h:RvS F B g cp M w):∀b,F b->b<w.heap.size:=by
 obtain⟨R,d,c⟩:=h;exact λb hb=>(c b hb).1
theorem RvS.kept{F:Nat->Prop}{B g cp:Nat}{M:MD}{w i:World}(h:RvS F B g cp M w)(hb:Below w.heap.size w i):RvS F B g cp M i:=by
 obtain⟨R,j,c⟩:=h;exact⟨R,j.kept (Ab hb none) (by simp),λb d=>⟨Nat.lt_of_lt_of_le (c b d).1 hb.size,(c b d).2⟩⟩
theorem RvN.kept{F:Nat->Prop}{B g cp:Nat}{M:MD}{w c i:World}(h:RvN F B g cp M w c)(j:B<=w.heap.size)(hb:Below c.heap.size c i):RvN F B g cp M w i :=
 ⟨h.1.kept hb,λb d=>(hb.block b (h.1.lt b d)).trans (h.2.1 b d),h.2.2.trans (hb.mono (Nat.le_trans j h.2.2.size))⟩
def RvS.grown(h:RvS F B g cp M w)(hb:Below w.heap.size w d)(p:g<w.heap.size):RvS (λb=>F b\/(w.heap.size<=b/\b<d.heap.size)) B g cp M d:=by
 obtain⟨R,j,k⟩:=h;refine⟨R,j.kept (Ab hb none) (by simp),λb c=>?_⟩
 rcases c with c|⟨o,l⟩
 ·exact⟨Nat.lt_of_lt_of_le (k b c).1 hb.size,(k b c).2⟩
 refine⟨l,λe=>?_,λi hi e=>?_⟩
 ·have m:g=b:=by simpa [Value.ownBlock] using e
  omega
 have:=(World.ownsRow.lt (j.row i hi) b e).2;omega
def LX{m:World}{l s q:Nat}{R:Nat->Value}{o:Obj}{a b t:Int}{x:ByteArray}(O:B<=d.heap.size)(h:OwM d B (.slice (some (Ad g 0)) M.n cp) M R)(C:q<M.n)
  (N:m.ownsRow B 59 4 (.slice (some (Ad l 0)) (M.na q+1) s) (M.na q+1) (cat (arc4 M q) (M.na q)++[.int .i64 a,.int .i64 b,.string x,.int .i64 t])) (A:(d.alloc o).grownBy m (R q).ownBlock)
  (F:(R q).ownBlock=some l\/(d.alloc o).heap.size<=l) :
  OwM (m.setCell (Ad g (q*2+1)) (.slice (some (Ad l 0)) (M.na q+1) s)) B (.slice (some (Ad g 0)) M.n cp) (M.arc q a b x t) (λi=>if i=q then .slice (some (Ad l 0)) (M.na q+1) s else R i)/\
  (m.cell? (Ad g (q*2+1))=some (R q)/\m.frozen? (Ad g (q*2+1))=false)/\
  (∀c,Fre d (.slice (some (Ad g 0)) M.n cp) R M.n c->m.heap[c]?=d.heap[c]?/\(m.setCell (Ad g (q*2+1)) (.slice (some (Ad l 0)) (M.na q+1) s)).heap[c]?=d.heap[c]?/\
   Fre (m.setCell (Ad g (q*2+1)) (.slice (some (Ad l 0)) (M.na q+1) s)) (.slice (some (Ad g 0)) M.n cp) (λi=>if i=q then .slice (some (Ad l 0)) (M.na q+1) s else R i) M.n c)/\
  Below B d (m.setCell (Ad g (q*2+1)) (.slice (some (Ad l 0)) (M.na q+1) s)):=by
 have Q:(d.alloc o).heap.size=d.heap.size+1:=by simp
 have K:∀c,(Value.slice (some (Ad l 0)) (M.na q+1) s).ownBlock=some c->(R q).ownBlock=some c\/d.heap.size<=c:=λc j=>by
  have e:l=c:=by simpa [Value.ownBlock] using j
  subst e
  rcases F with D|D
  ·exact .inl D
  right;omega
 have u:(R q).ownBlock≠some g:=λe=>h.tne C e rfl;have G:=World.ownsRow.lt h.top g rfl;have E:=h.arc (a:=a) (b:=b) (x:=x) (t:=t) C N A K;have H:m.ownsRow B 57 2 (.slice (some (Ad g 0)) M.n cp) M.n (cat (st2 M R) M.n):=Bn (World.ownsRow.alloc h.top o) A (λc j e=>by
  have I:g=c:=by simpa [Value.ownBlock] using j
  subst I;exact u e)
 have z:(d.alloc o).cell? (Ad g (q*2+1))=some (R q):=((Below.refl d.heap.size d).alloc nlr o).cell G.2 |>.trans (h.arcs_cell C)
 refine⟨E,⟨A.cell z (λe=>u e.symm),DK H _⟩,λc j=>?_,?_⟩
 ·have J:c≠g:=λe=>j.2.1 (by rw[e];rfl);have D:m.heap[c]?=d.heap[c]?:=(A.block c (by have:=j.1;omega) (λe=>j.2.2 q C e.symm)).trans (blk_alloc_lt _ _ _ j.1);refine⟨D,by rw[Ar J];exact D,⟨by rw[nblk_setCell];have:=A.size;have:=j.1;omega,j.2.1,λi hi=>?_⟩⟩
  dsimp only
  split
  ·intro e;have I:l=c:=by simpa [Value.ownBlock] using e
   subst I
   rcases F with L|L
   ·exact j.2.2 q C L
   have:=j.1;omega
  exact j.2.2 i hi
 exact(((Below.refl B d).alloc O o).grown A (by omega) (λk P=>(World.ownsRow.lt (h.row q C) k P).1)).setCell (p:=(Ad g (q*2+1))) G.1 _
def RevE(D:MD)(w:World)(r:Ending)(w':World):Prop :=
 Below w.heap.size w w'/\((VM D/\VM (revD D)/\∃sv R,r=.returned (.tuple #[.agg #[.int .i64 D.kind,.int .i64 (D.n:Int),.string D.lead,sv],.int .i64 0])/\OwM w' w.heap.size sv (revD D) R)\/
  (VM D/\¬VM (revD D)/\r=.returned (.tuple #[AE,.int .i64 2]))\/(¬VM D/\r=.returned (.tuple #[AE,.int .i64 1])))
def Yi{w:World}{B:Nat}{D:MD}{zs:Array Value}(h:B<=w.heap.size)(c:zs=madeCells (Value.agg #[.string ⟨#[]⟩,.slice none 0 0]).cells ((D.n+1)*2))(hn:D.n+1<=maxLen):
  OwM (w.alloc (.cells zs 57)) B (.slice (some (Ad w.heap.size 0)) (D.n+1) (D.n+1)) (revZ D) (λ_=>.slice none 0 0):=by
 refine⟨⟨?_,.inr ⟨w.heap.size,D.n+1,zs,rfl,h,han w _,nlr,hn,by rw[c];exact size_madeCells _ _,?_⟩⟩,λi _=>World.ownsRow_nil _ _ _ _,λi j _ _ _ b hb=>by cases hb⟩
 ·exact Cf (CP _ _) _
 have d:zs.toList=cat (st2 (revZ D) (λ_=>.slice none 0 0)) (D.n+1):=by
  rw[c];exact VT (Value.agg #[.string ⟨#[]⟩,.slice none 0 0]).cells (by decide) (D.n+1)
 have g:(cat (st2 (revZ D) (λ_=>.slice none 0 0)) (D.n+1)).length=(D.n+1)*2:=Cf (CP _ _) _;rw[d];show List.take ((D.n+1)*2) _=_;rw[<-g,List.take_length];rfl
def KM{D:MD}{mv:Value}(w:World)(hM:Ma none w mv D)(o3:MSz D)(ht:Tab w):Calls prog 26 #[mv] w (RevE D w):=by
 obtain⟨sv,rfl,hS⟩:=hM;obtain⟨a,cp,b,x4,A,C,BB,O,rfl,ha,hc,hm,hb,a3⟩:=hS.open;obtain⟨w1,g3⟩:=exq<|w.alloc (.cells #[.int .i64 D.kind,.int .i64 D.start,.string D.lead,.slice a D.n cp] 24);obtain⟨w2,j8⟩:=exq<|w1.alloc (.cells #[.int .i64 0,.int .i64 0,.string ⟨#[]⟩,.slice none 0 0] 24);have l0:w1.heap.size=w.heap.size+1:=by rw[g3];simp
 have y9:Fr (λ_=>False) w w1:=by rw[g3];exact Fr.alloc _ _
 have v7:Fr (λ_=>False) w1 w2:=by rw[j8];exact Fr.alloc _ _
 have w7:w1.heap[w.heap.size]?=some (.cells #[.int .i64 D.kind,.int .i64 D.start,.string D.lead,.slice a D.n cp] 24 (0,0)):=by rw[g3];exact han w _
 have n3:w2.heap[w.heap.size]?=some (.cells #[.int .i64 D.kind,.int .i64 D.start,.string D.lead,.slice a D.n cp] 24 (0,0)):=(v7.block _ (lbk w7) (λe=>e)).trans w7;have w8:w2.heap[w.heap.size+1]?=some (.cells #[.int .i64 0,.int .i64 0,.string ⟨#[]⟩,.slice none 0 0] 24 (0,0)):=by rw[<-l0,j8];exact han w1 _
 have m4:Below w.heap.size w w2:=(y9.trans v7).below nlr (λ_ e=>e.elim);obtain⟨mb,o2⟩:=exq<|w.heap.size;obtain⟨k,x1⟩:=exq<|w.heap.size+1;have n6:w.heap.size<=k:=by omega
 have B2:mb≠k:=by omega
 rw[<-o2]at n3;rw[<-x1]at w8;obtain⟨⟨m0,m1,m2,m3⟩,_⟩:=cells4 n3;have y0:=qh<|Ds w2 (⟨_,rfl,hS.kept (Ab m4 none)⟩:Ma none w2 (.agg #[.int .i64 D.kind,.int .i64 D.start,.string D.lead,.slice a D.n cp]) D) o3 (ht.below m4 nlr);have r7:=qh m4;clear m4;have s5:=qh n3;clear n3 w7 y9 v7 l0;have s6:=qh w8;clear w8;have t9:=qh o3;clear o3;replace ht:=qh ht;replace ha:=qh ha;have HB:=qh hb;clear hb;have HR:=qh a3;clear a3 hS;rw[o2,j8,g3]at m0 m1 m2 m3
 go_enter func26,ntmps26
 go_wp2_with fail
 rw[<-g3,<-j8,<-x1,<-o2];clear m0 m1 m2 m3 g3 j8 x1 o2;refine y0.o.mono ?_;rintro r w4⟨m5,hr⟩;have p7:=r7.o.trans<|m5.mono r7.o.size;have z3:=(m5.block _ (lbk s5.o)).trans s5.o;have z9:=(m5.block _ (lbk s6.o)).trans s6.o;clear m5 y0 r7 s5 s6;have r8:=qh p7;clear p7;have s8:=qh z3;clear z3;have l3:=qh z9;clear z9
 rcases hr with⟨hv,rfl⟩|⟨hv,rfl⟩
 rotate_left
 ·have HV:=qh hv;clear hv;obtain⟨⟨r0,r1,r2,r3⟩,rz⟩:=cells4 l3.o;have f0:=rz 0;have f1:=rz 1;have f2:=rz 2;have f3:=rz 3;clear rz
  go_wp2_with fail
  exact bodyPost_ret (AH rfl _ (b:=k) rfl rfl (AG w4 k _ _ _ _ l3.o)) rfl ⟨AF r8.o n6 _ _ _ _,.inr (.inr ⟨HV.o,rfl⟩)⟩
 have B3:1<=D.n:=hv.n1;have B4:D.n<=3000:=hv.n2;have HV:=qh hv;clear hv;obtain rfl:=ha.o (by omega);unfold maxLen at hm;obtain⟨n,hn⟩:=exq<|D.n;rw[<-hn]at B3 B4 hc;have w9:=KX (P:=prog) 22 57 _ 2 40 underlying22 Hm .i64 .i64 (n+1) (by omega) (by omega);obtain⟨zs,o5⟩:=exq<|madeCells (Value.agg #[.string ⟨#[]⟩,.slice none 0 0]).cells ((n+1)*2);rw[<-o5]at w9;have z7:((n+1:Nat):Int)=(n:Int)+1:=by omega
 rw[z7]at w9;replace o5:=qh o5;replace hn:=qh hn;obtain⟨⟨m0,m1,m2,m3⟩,_⟩:=cells4 s8.o;rw[<-hn.o]at m3;rw[<-hn.o]
 go_wp2_with fail
 refine Au (λwk=>wk.cell? (Ad mb 0)=some (.int .i64 D.kind)/\wk.cell? (Ad mb 2)=some (.string D.lead)) 9 (by kernel_rfl) ?_;obtain⟨h,z⟩:=exq<|w4.drew;rw[<-z];have c:h.cell? (Ad mb 0)=some (.int .i64 D.kind)/\h.cell? (Ad mb 2)=some (.string D.lead):=by rw[z];exact⟨m0,m2⟩
 have h7:Below w.heap.size w h:=by rw[z];exact r8.o.drew
 have z4:h.heap[mb]?=some (.cells #[.int .i64 D.kind,.int .i64 D.start,.string D.lead,.slice (some (Ad b x4)) D.n cp] 24 (0,0)):=by rw[z];exact s8.o
 have j1:h.heap[k]?=some (.cells #[.int .i64 0,.int .i64 0,.string ⟨#[]⟩,.slice none 0 0] 24 (0,0)):=by rw[z];exact l3.o
 clear m0 m1 m2 m3 z;have d0:=qh h7;clear h7 r8 s8 l3;have l1:=qh z4;clear z4;have u:=qh j1;clear j1;have B7:IntKind.i64.wrap ((n:Int)+1)=(n:Int)+1:=by rw[IntKind.wrap_i64];omega
 refine Aa.tm 0 c ?_;refine Aa.tm 1 c ?_;refine Aa.tm 2 c ?_;refine Aa.tm 3 c ?_;refine Aa.tm 4 c ?_;refine Aa.tm 5 c ?_;refine Aa.tm 6 c ?_
 try simp only[Act.put,tryL]
 clear B7;refine Aa.on 7 λK N=>?_;go_simp;obtain⟨g,hg⟩:=exq<|h.heap.size;obtain⟨wa,k0⟩:=exq<|h.alloc (.cells zs 57);have e9:Below h.heap.size h wa:=by rw[k0];exact(Below.refl _ h).alloc nlr _
 have q8:OwM wa w.heap.size (.slice (some (Ad g 0)) (n+1) (n+1)) (revZ D) (λ_=>.slice none 0 0):=by
  have h1:=Yi (w:=h) (B:=w.heap.size) (D:=D) (zs:=zs) d0.o.size (by rw[o5.o,hn.o]) (by unfold maxLen;have:=hn.o;omega);rw[<-k0,<-hg,<-hn.o]at h1;exact h1
 have n9:=(e9.block _ (lbk l1.o)).trans l1.o;have A0:=(e9.block _ (lbk u.o)).trans u.o;have y5:=d0.o.trans<|e9.mono d0.o.size;have z1:mb≠g/\k≠g:=by have:=lbk l1.o;have:=lbk u.o;omega
 have w0:g<wa.heap.size:=by rw[k0,hg];simp
 have C9:w.heap.size<=g:=by rw[hg];exact d0.o.size
 rw[<-k0,<-hg];have U:wa.cell? (Ad mb 0)=some (.int .i64 D.kind)/\wa.cell? (Ad mb 2)=some (.string D.lead):=⟨(cells4 n9).1.1,(cells4 n9).1.2.2.1⟩;refine N.out _ _ (.inr U) ?_;clear N K w9 z7 c k0 hg e9;have o6:=qh q8;clear q8;have s9:=qh n9;clear n9 l1;have l4:=qh A0;clear A0 u;have r9:=qh y5;clear y5 d0
 try simp only[Act.put,tryL]
 obtain⟨⟨r0,r1,r2,r3⟩,rz⟩:=cells4 l4.o;have f0:=rz 0;have f1:=rz 1;have f2:=rz 2;have f3:=rz 3;clear rz;refine Aa.on 8 λK N=>?_;go_simp;refine N.out _ _ (.inr U) ?_;clear N K
 try simp only[Act.put,tryL]
 refine Aa.on 9 λK N=>?_;go_simp;refine N.out _ _ (.inl rfl) (Aa.dn ?_);clear N K U;obtain⟨wb,k9⟩:∃wb,wb=(((wa.setCell ⟨k,0,none⟩ (.int .i64 D.kind)).setCell (Ad k 1) (.int .i64 (n:Int))).setCell (Ad k 2) (.string D.lead)).setCell (Ad k 3) (.slice (some (Ad g 0)) (n+1) (n+1)):=⟨_,rfl⟩;have v9:Fr (λq=>q=k) wa wb:=by rw[k9];exact(((((Fr.refl (λq=>q=k) wa).set (p:=(Ad k 0)) (.inl rfl) _).set (p:=(Ad k 1)) (.inl rfl) _).set (p:=(Ad k 2)) (.inl rfl) _).set (p:=(Ad k 3)) (.inl rfl) _)
 have j5:wb.heap[k]?=some (.cells #[.int .i64 D.kind,.int .i64 (n:Int),.string D.lead,.slice (some (Ad g 0)) (n+1) (n+1)] 24 (0,0)):=by rw[k9];exact AG wa k _ _ _ _ l4.o
 have i5:=(v9.block mb (lbk s9.o) B2).trans s9.o;have g0:Below w.heap.size w wb:=r9.o.trans (v9.below r9.o.size (λq e=>by rw[e];exact n6));have q7:OwM wb w.heap.size (.slice (some (Ad g 0)) (n+1) (n+1)) (revZ D) (λ_=>.slice none 0 0):=by rw[k9];exact o6.o.box4 l4.o _ _ _ _
 obtain⟨F,hF⟩:∃F:Nat->Prop,F=λb=>b=mb\/b=k:=⟨_,rfl⟩;have d7:RvN F w.heap.size g (n+1) (revQ D 0) wb wb:=by
  have e:(revQ D 0).n=n+1:=by rw[hn.o];rfl
  refine RvN.refl ⟨λ_=>.slice none 0 0,by rw[e];exact q7,λb hb=>⟨?_,?_,λi _=>by simp[Value.ownBlock]⟩⟩
  ·rw[hF]at hb
   rcases hb with rfl|rfl
   ·exact lbk i5
   exact lbk j5
  rw[hF]at hb;intro e2;have e3:g=b:=by simpa [Value.ownBlock] using e2
  rcases hb with rfl|rfl
  ·exact z1.1 e3.symm
  exact z1.2 e3.symm
 have v8:F mb:=by rw[hF];exact .inl rfl
 have d4:F k:=by rw[hF];exact .inr rfl
 have m3:=(cells4 i5).1.2.2.2;rw[<-hn.o]at m3;rw[<-k9];clear k9 v9 o6 s9 l4 r9 r0 r1 r2 r3 f0 f1 f2 f3 q7;have b5:=qh d7;clear d7;replace v8:=qh v8;replace d4:=qh d4;clear hF;replace j5:=qh j5;replace i5:=qh i5;replace g0:=qh g0;obtain⟨i0,hi,A2,l0,A3⟩:=Fe Hl;have HI:=qh hi;have y2:=qh A2;have y3:=qh l0;have y4:=qh A3;clear hi A2 l0 A3
 go_wp2_with fail
 clear m3
 go_loopw [29] (λx5 wr=>∃q:Nat,q<=n/\x5=.int .i64 (q:Int)/\RvN F w.heap.size g (n+1) (revQ D q) wb wr) (λx5 _=>n-(intOf x5).toNat)
 case atStart=>exact⟨0,Nat.zero_le _,rfl,b5.o⟩
 obtain⟨q,hq,rfl,j2⟩:=hrel;clear b5;have b9:=qh j2;clear j2;have A8:w.heap.size<=wb.heap.size:=g0.o.size;by_cases n7:q<n
 ·have C8:(q:Int)<(n:Int):=by omega
  have C2:(0:Int)<=(q:Int):=by omega
  have x0:q<D.n:=by have:=hn.o;omega
  have y6:=(HB.o (by have:=hn.o;omega)).1;obtain⟨k1,k2,k3,k4,k5,k6,k7⟩:=HR.o q x0;have d3:=g0.o.trans b9.o.2.2;have t0:=(d3.cell (p:=(Ad b (x4+q*2))) y6).trans k1;have t1:=(d3.cell (p:=(Ad b (x4+q*2+1))) y6).trans k2;clear k1 k2;unfold maxLen at k4;obtain⟨fq,g2⟩:=exq<|D.fin q;obtain⟨aq,v5⟩:=exq<|A q;obtain⟨nq,b1⟩:=exq<|D.na q;obtain⟨g8,y7⟩:=exq<|C q;rw[<-g2]at t0;rw[<-v5,<-b1,<-y7]at t1;rw[<-v5,<-b1]at k5;rw[<-b1]at k6 k7;have C1:nq<=30000:=by rw[b1];have h1:=Nat.le_trans (BA D (show q+1<=D.n by omega)) HV.o.arcs;have h2:Ac D (q+1)=Ac D q+D.na q:=rfl;omega
  replace g2:=qh g2;replace b1:=qh b1;clear v5 y7 k3 k4;replace k5:=qh k5;replace k6:=qh k6;replace k7:=qh k7;have e4:(revQ D q).n=n+1:=by rw[(BW D q).n,hn.o];rfl
  have i8:=KL HV.o t9.o q (by omega);replace i8:=qh i8;have l2:=qh e4;clear e4;have C5:w.heap.size<=wr.heap.size:=d3.size;have w3:g<wr.heap.size:=by
   obtain⟨R,h1,_⟩:=b9.o.1;exact(World.ownsRow.lt h1.top g rfl).2
  obtain⟨sb,j6⟩:=exq<|wr.heap.size;obtain⟨w5,g4⟩:=exq<|wr.alloc (.cells #[.string fq,.slice aq nq g8] 57);have v6:Below wr.heap.size wr w5:=by rw[g4];exact(Below.refl _ wr).alloc nlr _
  have B8:w5.heap.size=wr.heap.size+1:=by rw[g4];simp
  have n5:w5.heap[sb]?=some (.cells #[.string fq,.slice aq nq g8] 57 (0,0)):=by rw[g4,j6];exact han wr _
  obtain⟨F2,l5⟩:∃F2:Nat->Prop,F2=λb=>F b\/b=sb:=⟨_,rfl⟩;have q9:RvS F2 w.heap.size g (n+1) (revQ D q) w5:=(b9.o.1.grown v6 w3).sub (λb hb=>by
   rw[l5]at hb;exact hb.imp id (λe=>by rw[e,j6];omega))
  have a2:∀b,F b->F2 b:=λb hb=>by rw[l5];exact .inl hb
  have f4:F2 sb:=by rw[l5];exact .inr rfl
  have Z:=b9.o.kept A8 v6;have s1:w5.cell? (Ad sb 1)=some (.slice aq nq g8):=by simp[World.cell?,n5]
  rw[g4,j6]at s1;have o8:=qh<|RvN.refl q9;clear q9;replace Z:=qh Z;clear b9 v6 d3;replace n5:=qh n5;replace a2:=qh a2;replace f4:=qh f4;clear l5;have A7:w.heap.size<=w5.heap.size:=by omega
  go_wp2_with fail
  rw[<-g4,<-j6];clear t0 t1 g4 j6 s1 B8
  go_loopw [37] (λx6 wr=>∃d:Nat,d<=nq/\x6=.int .i64 (d:Int)/\RvN F2 w.heap.size g (n+1) (revA D q d (revQ D q)) w5 wr) (λx6 _=>nq-(intOf x6).toNat)
  case atStart=>exact⟨0,Nat.zero_le _,rfl,o8.o⟩
  obtain⟨d,hd,rfl,j2⟩:=hrel;clear o8;have u:=qh j2;clear j2;have z5:(revA D q d (revQ D q)).n=n+1:=by rw[(Gv D q (Skel.refl _) d).n];exact l2.o
  have i7:=(KH HV.o t9.o x0 ((BW D q).kind) i8.o d (by rw[<-b1.o];omega));have a7:=(g0.o.trans Z.o.2.2).trans u.o.2.2;have p6:w.heap.size<=wr.heap.size:=a7.size;have f8:∀p,(revA D q d (revQ D q)).na p<=100000:=λp=>Nat.le_trans (i7.na p) (by
   have h1:=Nat.le_trans (BA D (show q+1<=D.n by omega)) HV.o.arcs;have h2:Ac D (q+1)=Ac D q+D.na q:=rfl;have:=b1.o;omega)
  have X:=(u.o.2.1 k (a2.o k d4.o)).trans ((Z.o.2.1 k d4.o).trans j5.o);have b7:=(u.o.2.1 sb f4.o).trans n5.o;by_cases y8:d<nq
  ·have C6:(d:Int)<(nq:Int):=by omega
   have C0:(0:Int)<=(d:Int):=by omega
   have m8:=(k6.o (by omega)).1;obtain⟨u0,u1,u2,u3⟩:=k7.o d y8;obtain rfl:=k5.o (by omega);have c0:=(a7.cell (p:=(Ad (BB q) (O q+d*4))) m8).trans u0;have c1:=(a7.cell (p:=(Ad (BB q) (O q+d*4+1))) m8).trans u1;have c2:=(a7.cell (p:=(Ad (BB q) (O q+d*4+2))) m8).trans u2;have c3:=(a7.cell (p:=(Ad (BB q) (O q+d*4+3))) m8).trans u3;clear u0 u1 u2 u3;have e1:=HV.o.arc q d x0 (by rw[<-b1.o];exact y8);obtain⟨T,o4⟩:∃T:Nat,D.ato q d=(T:Int):=⟨(D.ato q d).toNat,by have:=e1.t0;omega⟩;have j0:T<=n:=by have:=e1.t1;have:=hn.o;omega
   have c9:T<(revA D q d (revQ D q)).n:=by rw[z5];omega
   have z6:=f8 T;rw[o4]at c3;replace o4:=qh o4;clear e1;obtain⟨ai,l8⟩:=exq<|D.ain q d;obtain⟨ao,e1⟩:=exq<|D.aout q d;obtain⟨aw,l9⟩:=exq<|D.aw q d;rw[<-l8]at c0;rw[<-e1]at c1;rw[<-l9]at c2;replace l8:=qh l8;have A4:=qh e1;clear e1;replace l9:=qh l9;have w3:g<wr.heap.size:=by
    obtain⟨R,h1,_⟩:=u.o.1;exact(World.ownsRow.lt h1.top g rfl).2
   obtain⟨ab,l7⟩:=exq<|wr.heap.size;obtain⟨w6,j9⟩:=exq<|wr.alloc (.cells #[.int .i64 ai,.int .i64 ao,.string aw,.int .i64 (q:Int)] 59);have m7:Below wr.heap.size wr w6:=by rw[j9];exact(Below.refl _ wr).alloc nlr _
   have B9:w6.heap.size=wr.heap.size+1:=by rw[j9];simp
   have f7:w6.heap[ab]?=some (.cells #[.int .i64 ai,.int .i64 ao,.string aw,.int .i64 (q:Int)] 59 (0,0)):=by rw[j9,l7];exact han wr _
   have f9:=(m7.block _ (lbk X)).trans X;obtain⟨F3,l6⟩:∃F3:Nat->Prop,F3=λb=>F2 b\/b=ab:=⟨_,rfl⟩;have j3:RvS F3 w.heap.size g (n+1) (revA D q d (revQ D q)) w6:=(u.o.1.grown m7 w3).sub (λb hb=>by
    rw[l6]at hb;exact hb.imp id (λe=>by rw[e,l7];omega))
   have f5:∀b,F2 b->F3 b:=λb hb=>by rw[l6];exact .inl hb
   have h9:F3 ab:=by rw[l6];exact .inr rfl
   have e7:=u.o.kept A7 m7;have p0:w.heap.size<=w6.heap.size:=by omega
   have d5:∀b,F3 b->b<w6.heap.size:=j3.lt;have v0:=qh j3;clear j3;replace e7:=qh e7;clear u;replace f7:=qh f7;replace f9:=qh f9;clear X b7;replace f5:=qh f5;replace h9:=qh h9;clear l6;have s7:=qh d5;clear d5;clear m7 B9 a7 i7 f8;obtain⟨R,Y,G⟩:=v0.o;obtain⟨ra,rc,e6,_,_⟩:=AC<|Y.row T c9;obtain⟨h,z⟩:=exq<|w6.drew;have a5:Fr (λ_=>False) w6 h:=by rw[z];exact(Fr.refl _ _).drew
   have j:Below w6.heap.size w6 h:=a5.below nlr (λ_ e=>e.elim);have b2:OwM h w.heap.size (.slice (some (Ad g 0)) (revA D q d (revQ D q)).n (n+1)) (revA D q d (revQ D q)) R:=Y.kept (Ab j none) (by simp);have a8:∀b,F3 b->Fre h (.slice (some (Ad g 0)) (revA D q d (revQ D q)).n (n+1)) R (revA D q d (revQ D q)).n b:=λb hb=>⟨Nat.lt_of_lt_of_le (G b hb).1 j.size,(G b hb).2⟩;have I:=(a5.block _ (lbk f9.o) (λe=>e)).trans f9.o;have l:=(a5.block _ (lbk f7.o) (λe=>e)).trans f7.o;have v2:w.heap.size<=h.heap.size:=Nat.le_trans p0 j.size;have i2:h.cell? (Ad g (T*2+1))=some (.slice ra ((revA D q d (revQ D q)).na T) rc):=by rw[b2.arcs_cell c9,e6]
   have c:h.cell? (Ad k 3)=some (.slice (some (Ad g 0)) (n+1) (n+1))/\h.cell? (Ad g (T*2+1))=some (.slice ra ((revA D q d (revQ D q)).na T) rc)/\h.cell? (Ad ab 0)=some (.int .i64 ai)/\h.cell? (Ad ab 1)=some (.int .i64 ao)/\h.cell? (Ad ab 2)=some (.string aw)/\h.cell? (Ad ab 3)=some (.int .i64 (q:Int)):=⟨(cells4 I).1.2.2.2,i2,by simp[World.cell?,l],by simp[World.cell?,l],by simp[World.cell?,l],by simp[World.cell?,l]⟩;have B5:(T:Int)<(n:Int)+1:=by have:=j0;omega
   have z8:(0:Int)<=(T:Int):=by omega
   have d9:=qh b2;clear b2 Y;have J:=qh a8;clear a8 G;have b8:=qh e6;clear e6;have L:=qh I;clear I;have Q:=qh l;clear l i2;have d1:=qh j;clear j a5
   go_wp2_with fail
   refine Au (λwk=>wk.cell? (Ad k 3)=some (.slice (some (Ad g 0)) (n+1) (n+1))/\wk.cell? (Ad g (T*2+1))=some (.slice ra ((revA D q d (revQ D q)).na T) rc)/\wk.cell? (Ad ab 0)=some (.int .i64 ai)/\wk.cell? (Ad ab 1)=some (.int .i64 ao)/\wk.cell? (Ad ab 2)=some (.string aw)/\wk.cell? (Ad ab 3)=some (.int .i64 (q:Int))) 14 (by kernel_rfl) ?_;rw[<-j9,<-l7];clear c0 c1 c2 c3 j9 l7;rw[<-z];clear z;refine Aa.tm 0 c ?_;refine Aa.tm 1 c ?_;refine Aa.tm 2 c ?_;refine Aa.tm 3 c ?_;refine Aa.tm 4 c ?_;refine Aa.tm 5 c ?_;refine Aa.tm 6 c ?_;refine Aa.tm 7 c ?_;refine Aa.tm 8 c ?_;refine Aa.tm 9 c ?_
   try simp only[Act.put,tryL]
   refine Aa.on 10 λK N=>?_;go_simp;obtain⟨wy,S⟩:=exq<|h.alloc (.cells #[.int .i64 (ai),.int .i64 (ao),.string (aw),.int .i64 (q:Int)] 59);have c8:Below h.heap.size h wy:=by rw[S];exact(Below.refl _ h).alloc nlr _
   have e5:wy.heap[h.heap.size]?=some (.cells #[.int .i64 (ai),.int .i64 (ao),.string (aw),.int .i64 (q:Int)] 59 (0,0)):=by rw[S];exact han h _
   have x3:wy.heap.size=h.heap.size+1:=by rw[S];simp
   have b4:=(c8.block _ (lbk L.o)).trans L.o;have m:=(c8.block _ (lbk Q.o)).trans Q.o;have U:wy.cell? (Ad k 3)=some (.slice (some (Ad g 0)) (n+1) (n+1))/\wy.cell? (Ad g (T*2+1))=some (.slice ra ((revA D q d (revQ D q)).na T) rc)/\wy.cell? (Ad ab 0)=some (.int .i64 ai)/\wy.cell? (Ad ab 1)=some (.int .i64 ao)/\wy.cell? (Ad ab 2)=some (.string aw)/\wy.cell? (Ad ab 3)=some (.int .i64 (q:Int)):=⟨(cells4 b4).1.2.2.2,c8.cell (World.ownsRow.lt d9.o.top g rfl).2 |>.trans c.2.1,by simp[World.cell?,m],by simp[World.cell?,m],by simp[World.cell?,m],by simp[World.cell?,m]⟩
   have a3:wy.ownsRow w.heap.size 59 4 (.slice ra ((revA D q d (revQ D q)).na T) rc) ((revA D q d (revQ D q)).na T) (cat (arc4 (revA D q d (revQ D q)) T) ((revA D q d (revQ D q)).na T)):=by rw[S,<-b8.o];exact World.ownsRow.alloc (d9.o.row T c9) _
   have v3:w.heap.size<=wy.heap.size:=by omega
   obtain⟨H,hH⟩:=exq<|h.heap.size;rw[<-hH]at e5 x3;rw[<-S,<-hH];have g7:=qh S;clear S;have A5:=qh hH;clear hH;have t7:=qh e5;clear e5;have x9:=qh b4;clear b4;have s3:=qh m;clear m;clear c8;refine N.out _ _ (.inr U) ?_;clear N K c
   try simp only[Act.put,tryL]
   refine Aa.on 11 λK N=>?_;refine wp_append_lies _ (.tmp 53) (.tmp 55) 55 rfl w.heap.size 59 i0 (.agg #[.int .i64 0,.int .i64 0,.string ⟨#[]⟩,.int .i64 0]) 4 40 underlying55 HI.o y2.o y3.o y4.o rfl (by omega) (.slice ra ((revA D q d (revQ D q)).na T) rc) ((revA D q d (revQ D q)).na T) _ (by simp[Act.eval]) a3 (Ad H 0) 1 1 [.int .i64 (ai),.int .i64 (ao),.string (aw),.int .i64 (q:Int)] (by simp[Act.eval]) rfl (Fi (cs:=#[.int .i64 (ai),.int .i64 (ao),.string (aw),.int .i64 (q:Int)]) t7.o) JJ (by omega) (by unfold maxLen;omega) (by omega) v3 _ rfl ?_;intro go cq we b3 a9 h4 n7;have h3:=LX (o:=.cells #[.int .i64 (ai),.int .i64 (ao),.string (aw),.int .i64 (q:Int)] 59) v2 d9.o c9 b3 (by rw[<-g7.o,b8.o];exact a9) (by rw[<-g7.o,b8.o];exact h4.imp id (λe=>Nat.le_of_eq e.symm));obtain⟨g9,⟨e0,v4⟩,a6,h0⟩:=h3;have W:=(a6 k (J.o k (f5.o k (a2.o k d4.o)))).1.trans L.o;have E:=(a6 ab (J.o ab h9.o)).1.trans Q.o;rw[b8.o]at e0;have c7:we.cell? (Ad k 3)=some (.slice (some (Ad g 0)) (n+1) (n+1))/\we.cell? (Ad g (T*2+1))=some (.slice ra ((revA D q d (revQ D q)).na T) rc)/\we.cell? (Ad ab 0)=some (.int .i64 ai)/\we.cell? (Ad ab 1)=some (.int .i64 ao)/\we.cell? (Ad ab 2)=some (.string aw)/\we.cell? (Ad ab 3)=some (.int .i64 (q:Int)):=⟨(cells4 W).1.2.2.2,e0,by simp[World.cell?,E],by simp[World.cell?,E],by simp[World.cell?,E],by simp[World.cell?,E]⟩;have s:RvN F3 w.heap.size g (n+1) ((revA D q d (revQ D q)).arc T (ai) (ao) (aw) (q:Int)) w6 (we.setCell (Ad g (T*2+1)) (.slice (some (Ad go 0)) ((revA D q d (revQ D q)).na T+1) cq)) :=
    ⟨⟨_,g9,λb hb=>(a6 b (J.o b hb)).2.2⟩,λb hb=>(a6 b (J.o b hb)).2.1.trans (d1.o.block b (s7.o b hb)),(d1.o.mono p0).trans h0⟩
   have d2:=qh s;clear s g9 a6 h0 W E b3 a9 h4 n7 a3;refine N.out _ _ (.inr c7) ?_;clear N K U
   try simp only[Act.put,tryL]
   refine Aa.tm 12 c7 ?_;refine Aa.tm 13 c7 ?_
   try simp only[Act.put,tryL]
   refine Aa.on 14 λK N=>?_;go_simp;refine N.out _ _ (.inl rfl) (Aa.dn ?_);clear N K c7 e0 v4;obtain⟨wf,a1⟩:=exq<|we.setCell ⟨g,T*2+1,none⟩ (.slice (some ⟨go,0,none⟩) ((revA D q d (revQ D q)).na T+1) cq);have s:=d2.o;rw[<-a1]at s;rw[<-a1];clear a1;have d8:RvN F2 w.heap.size g (n+1) (revA D q (d+1) (revQ D q)) w5 wf:=by
    have e:revA D q (d+1) (revQ D q)=(revA D q d (revQ D q)).arc T ai ao aw (q:Int):=by
     show (revA D q d (revQ D q)).arc (D.ato q d).toNat (D.ain q d) (D.aout q d) (D.aw q d) (q:Int)=_;rw[o4.o,<-l8.o,<-A4.o,<-l9.o];rfl
    rw[e];exact e7.o.trans<|s.sub f5.o
   have g6:=qh d8;clear d8 s d2;go_wp2;go_roundw
   case rel=>exact⟨d+1,by omega,by go_num,g6.o⟩
   simp[intOf];omega
  have B0:nq=d:=by omega
  subst B0;have z2:¬((nq:Int)<(nq:Int)):=by omega
  have s0:wr.cell? (Ad sb 0)=some (.string fq):=by simp[World.cell?,b7]
  have o7:=qh X;clear X;replace b7:=qh b7;have d7:RvN F w.heap.size g (n+1) (revA D q nq (revQ D q)) wb wr:=⟨u.o.1.sub a2.o,λb hb=>(u.o.2.1 b (a2.o b hb)).trans (Z.o.2.1 b hb),Z.o.2.2.trans u.o.2.2⟩;have b5:=qh d7;clear d7 a7 i7;by_cases g1:fq=⟨#[]⟩
  ·have i6:revQ D (q+1)=revA D q nq (revQ D q):=by
    show revF D q (revA D q (D.na q) (revQ D q))=_;unfold revF;rw[ifp (by rw[<-g2.o];exact g1),b1.o]
   have hB:=b5.o;rw[<-i6]at hB;have s4:=qh hB;clear hB i6 b5 u;subst g1;go_wp2;go_roundw
   case rel=>exact⟨q+1,by omega,by go_num,s4.o⟩
   simp[intOf];omega
  have C7:(fq.toList==[])=false:=by
   cases hE:(fq.toList==[])
   ·rfl
   exact absurd (Ec hE) g1
  have i6:revQ D (q+1)=(revA D q nq (revQ D q)).arc n 0 0 fq (q:Int):=by
   show revF D q (revA D q (D.na q) (revQ D q))=_;unfold revF;rw[ifn (by rw[<-g2.o];exact g1),b1.o,g2.o,hn.o]
  have c9:n<(revA D q nq (revQ D q)).n:=by rw[z5];omega
  have j0:n<=n:=nlr;have z6:=f8 n;have d5:∀b,F2 b->b<wr.heap.size:=u.o.1.lt;have v0:=qh u.o.1;have A6:=qh i6;clear i6;have s7:=qh d5;clear d5 f8;replace g1:=qh g1;obtain⟨R,Y,G⟩:=v0.o;obtain⟨ra,rc,e6,_,_⟩:=AC<|Y.row n c9;obtain⟨h,z⟩:=exq<|wr.drew;have a5:Fr (λ_=>False) wr h:=by rw[z];exact(Fr.refl _ _).drew
  have j:Below wr.heap.size wr h:=a5.below nlr (λ_ e=>e.elim);have b2:OwM h w.heap.size (.slice (some (Ad g 0)) (revA D q nq (revQ D q)).n (n+1)) (revA D q nq (revQ D q)) R:=Y.kept (Ab j none) (by simp);have a8:∀b,F2 b->Fre h (.slice (some (Ad g 0)) (revA D q nq (revQ D q)).n (n+1)) R (revA D q nq (revQ D q)).n b:=λb hb=>⟨Nat.lt_of_lt_of_le (G b hb).1 j.size,(G b hb).2⟩;have I:=(a5.block _ (lbk o7.o) (λe=>e)).trans o7.o;have l:=(a5.block _ (lbk b7.o) (λe=>e)).trans b7.o;have v2:w.heap.size<=h.heap.size:=Nat.le_trans p6 j.size;have i2:h.cell? (Ad g (n*2+1))=some (.slice ra ((revA D q nq (revQ D q)).na n) rc):=by rw[b2.arcs_cell c9,e6]
  have c:h.cell? (Ad k 3)=some (.slice (some (Ad g 0)) (n+1) (n+1))/\h.cell? (Ad g (n*2+1))=some (.slice ra ((revA D q nq (revQ D q)).na n) rc)/\h.cell? (Ad sb 0)=some (.string fq):=⟨(cells4 I).1.2.2.2,i2,by simp[World.cell?,l]⟩;have B5:(n:Int)<(n:Int)+1:=by have:=j0;omega
  have z8:(0:Int)<=(n:Int):=by omega
  have d9:=qh b2;clear b2 Y;have J:=qh a8;clear a8 G;have b8:=qh e6;clear e6;have L:=qh I;clear I;have Q:=qh l;clear l i2;have d1:=qh j;clear j a5
  go_wp2_with fail
  refine Au (λwk=>wk.cell? (Ad k 3)=some (.slice (some (Ad g 0)) (n+1) (n+1))/\wk.cell? (Ad g (n*2+1))=some (.slice ra ((revA D q nq (revQ D q)).na n) rc)/\wk.cell? (Ad sb 0)=some (.string fq)) 17 (by kernel_rfl) ?_;rw[<-z];clear z s0;refine Aa.tm 0 c ?_;refine Aa.tm 1 c ?_;refine Aa.tm 2 c ?_;refine Aa.tm 3 c ?_;refine Aa.tm 4 c ?_;refine Aa.tm 5 c ?_;refine Aa.tm 6 c ?_;refine Aa.tm 7 c ?_;refine Aa.tm 8 c ?_;refine Aa.tm 9 c ?_;refine Aa.tm 10 c ?_;refine Aa.tm 11 c ?_;refine Aa.tm 12 c ?_
  try simp only[Act.put,tryL]
  refine Aa.on 13 λK N=>?_;go_simp;obtain⟨wy,S⟩:=exq<|h.alloc (.cells #[.int .i64 (0),.int .i64 (0),.string (fq),.int .i64 (q:Int)] 59);have c8:Below h.heap.size h wy:=by rw[S];exact(Below.refl _ h).alloc nlr _
  have e5:wy.heap[h.heap.size]?=some (.cells #[.int .i64 (0),.int .i64 (0),.string (fq),.int .i64 (q:Int)] 59 (0,0)):=by rw[S];exact han h _
  have x3:wy.heap.size=h.heap.size+1:=by rw[S];simp
  have b4:=(c8.block _ (lbk L.o)).trans L.o;have m:=(c8.block _ (lbk Q.o)).trans Q.o;have U:wy.cell? (Ad k 3)=some (.slice (some (Ad g 0)) (n+1) (n+1))/\wy.cell? (Ad g (n*2+1))=some (.slice ra ((revA D q nq (revQ D q)).na n) rc)/\wy.cell? (Ad sb 0)=some (.string fq):=⟨(cells4 b4).1.2.2.2,c8.cell (World.ownsRow.lt d9.o.top g rfl).2 |>.trans c.2.1,by simp[World.cell?,m]⟩
  have a3:wy.ownsRow w.heap.size 59 4 (.slice ra ((revA D q nq (revQ D q)).na n) rc) ((revA D q nq (revQ D q)).na n) (cat (arc4 (revA D q nq (revQ D q)) n) ((revA D q nq (revQ D q)).na n)):=by rw[S,<-b8.o];exact World.ownsRow.alloc (d9.o.row n c9) _
  have v3:w.heap.size<=wy.heap.size:=by omega
  obtain⟨H,hH⟩:=exq<|h.heap.size;rw[<-hH]at e5 x3;rw[<-S,<-hH];have g7:=qh S;clear S;have A5:=qh hH;clear hH;have t7:=qh e5;clear e5;have x9:=qh b4;clear b4;have s3:=qh m;clear m;clear c8;refine N.out _ _ (.inr U) ?_;clear N K c
  try simp only[Act.put,tryL]
  refine Aa.on 14 λK N=>?_;refine wp_append_lies _ (.tmp 71) (.tmp 76) 55 rfl w.heap.size 59 i0 (.agg #[.int .i64 0,.int .i64 0,.string ⟨#[]⟩,.int .i64 0]) 4 40 underlying55 HI.o y2.o y3.o y4.o rfl (by omega) (.slice ra ((revA D q nq (revQ D q)).na n) rc) ((revA D q nq (revQ D q)).na n) _ (by simp[Act.eval]) a3 (Ad H 0) 1 1 [.int .i64 (0),.int .i64 (0),.string (fq),.int .i64 (q:Int)] (by simp[Act.eval]) rfl (Fi (cs:=#[.int .i64 (0),.int .i64 (0),.string (fq),.int .i64 (q:Int)]) t7.o) JJ (by omega) (by unfold maxLen;omega) (by omega) v3 _ rfl ?_;intro go cq we b3 a9 h4 n7;have h3:=LX (o:=.cells #[.int .i64 (0),.int .i64 (0),.string (fq),.int .i64 (q:Int)] 59) v2 d9.o c9 b3 (by rw[<-g7.o,b8.o];exact a9) (by rw[<-g7.o,b8.o];exact h4.imp id (λe=>Nat.le_of_eq e.symm));obtain⟨g9,⟨e0,v4⟩,a6,h0⟩:=h3;have W:=(a6 k (J.o k (a2.o k d4.o))).1.trans L.o;have E:=(a6 sb (J.o sb f4.o)).1.trans Q.o;rw[b8.o]at e0;have c7:we.cell? (Ad k 3)=some (.slice (some (Ad g 0)) (n+1) (n+1))/\we.cell? (Ad g (n*2+1))=some (.slice ra ((revA D q nq (revQ D q)).na n) rc)/\we.cell? (Ad sb 0)=some (.string fq):=⟨(cells4 W).1.2.2.2,e0,by simp[World.cell?,E]⟩;have s:RvN F2 w.heap.size g (n+1) ((revA D q nq (revQ D q)).arc n (0) (0) (fq) (q:Int)) wr (we.setCell (Ad g (n*2+1)) (.slice (some (Ad go 0)) ((revA D q nq (revQ D q)).na n+1) cq)) :=
   ⟨⟨_,g9,λb hb=>(a6 b (J.o b hb)).2.2⟩,λb hb=>(a6 b (J.o b hb)).2.1.trans (d1.o.block b (s7.o b hb)),(d1.o.mono p6).trans h0⟩
  have d2:=qh s;clear s g9 a6 h0 W E b3 a9 h4 n7 a3;refine N.out _ _ (.inr c7) ?_;clear N K U
  try simp only[Act.put,tryL]
  refine Aa.tm 15 c7 ?_;refine Aa.tm 16 c7 ?_
  try simp only[Act.put,tryL]
  refine Aa.on 17 λK N=>?_;go_simp;refine N.out _ _ (.inl rfl) (Aa.dn ?_);clear N K c7 e0 v4;obtain⟨wf,a1⟩:=exq<|we.setCell ⟨g,n*2+1,none⟩ (.slice (some ⟨go,0,none⟩) ((revA D q nq (revQ D q)).na n+1) cq);have s:=d2.o;rw[<-a1,<-A6.o]at s;rw[<-a1];clear a1;have d8:RvN F w.heap.size g (n+1) (revQ D (q+1)) wb wf:=b5.o.trans<|s.sub a2.o;have g6:=qh d8;clear d8 s d2;go_wp2;go_roundw
  case rel=>exact⟨q+1,by omega,by go_num,g6.o⟩
  simp[intOf];omega
 have B6:n=q:=by omega
 subst B6;have z2:¬((n:Int)<(n:Int)):=by omega
 have X:=(b9.o.2.1 k d4.o).trans j5.o;have i4:=(b9.o.2.1 mb v8.o).trans i5.o;have d3:=g0.o.trans b9.o.2.2;obtain⟨st,x2⟩:∃st:Nat,D.start=(st:Int):=⟨D.start.toNat,by have:=HV.o.s0;omega⟩;have j7:D.start.toNat=st:=by omega
 have C3:st<n:=by have:=HV.o.s1;have:=hn.o;omega
 obtain⟨h,z⟩:=exq<|wr.drew;have a5:Fr (λ_=>False) wr h:=by rw[z];exact(Fr.refl _ _).drew
 have j:Below wr.heap.size wr h:=a5.below nlr (λ_ e=>e.elim);have j4:=b9.o.1.kept j;have I:=(j.block _ (lbk X)).trans X;have b0:=(j.block _ (lbk i4)).trans i4;have h7:=d3.trans<|j.mono d3.size;rw[x2]at b0;have c:h.cell? (Ad k 3)=some (.slice (some (Ad g 0)) (n+1) (n+1))/\h.cell? (Ad mb 0)=some (.int .i64 D.kind)/\h.cell? (Ad mb 1)=some (.int .i64 (st:Int)):=⟨(cells4 I).1.2.2.2,(cells4 b0).1.1,(cells4 b0).1.2.1⟩;have o3:(st:Int)<(n:Int)+1:=by omega
 have C4:(0:Int)<=(st:Int):=by omega
 replace j4:=qh j4;have L:=qh I;clear I X;replace b0:=qh b0;clear i4;have d0:=qh h7;clear h7 d3 j a5;replace x2:=qh x2;replace j7:=qh j7
 go_wp2_with fail
 refine Au (λwk=>wk.cell? (Ad k 3)=some (.slice (some (Ad g 0)) (n+1) (n+1))/\wk.cell? (Ad mb 0)=some (.int .i64 D.kind)/\wk.cell? (Ad mb 1)=some (.int .i64 (st:Int))) 9 (by kernel_rfl) ?_;rw[<-z];clear z;refine Aa.tm 0 c ?_;refine Aa.tm 1 c ?_;refine Aa.tm 2 c ?_;refine Aa.tm 3 c ?_;refine Aa.tm 4 c ?_;refine Aa.tm 5 c ?_
 try simp only[Act.put,tryL]
 refine Aa.on 6 λK N=>?_;go_simp;refine(Iu D.kind h).mono ?_;rintro r we⟨rfl,h8⟩;have A1:=j4.o.kept h8;have W:=(h8.block _ (lbk L.o)).trans L.o;have i3:=(h8.block _ (lbk b0.o)).trans b0.o;have h5:=d0.o.trans<|h8.mono d0.o.size;have U:we.cell? (Ad k 3)=some (.slice (some (Ad g 0)) (n+1) (n+1))/\we.cell? (Ad mb 0)=some (.int .i64 D.kind)/\we.cell? (Ad mb 1)=some (.int .i64 (st:Int)):=⟨(cells4 W).1.2.2.2,(cells4 i3).1.1,(cells4 i3).1.2.1⟩;obtain⟨R,Y,G⟩:=A1;have e4:(revQ D n).n=n+1:=by rw[(BW D n).n,hn.o];rfl
 have A9:we.cell? (Ad g (st*2))=some (.string ((revQ D n).fin st)):=Y.fin_cell (by rw[e4];omega);have B1:=DK Y.top (st*2);have a4:=Y.setFin (q:=st) (by rw[e4];omega) (oneF D.kind);have p8:k≠g:=λe=>(G k d4.o).2.1 (by rw[e];rfl);have w0:=World.ownsRow.lt Y.top g rfl;refine N.out _ _ (.inr U) ?_;clear N K c h8;obtain⟨on,i9⟩:=exq<|oneF D.kind;rw[<-i9]at a4;rw[<-i9];replace i9:=qh i9;have o9:=qh a4;clear a4 Y;have x8:=qh W;clear W;replace h5:=qh h5;clear i3;have l2:=qh e4;clear e4;have J:=qh G;clear G
 try simp only[Act.put,tryL]
 refine Aa.tm 7 U ?_;refine Aa.tm 8 U ?_
 try simp only[Act.put,tryL]
 refine Aa.on 9 λK N=>?_;go_simp;refine N.out _ _ (.inl rfl) (Aa.dn ?_);clear N K U A9 B1;obtain⟨wf,a1⟩:=exq<|we.setCell ⟨g,st*2,none⟩ (.string on);have j1:(revQ D n).setFin st on=revD D:=by
  unfold revD;rw[j7.o,<-hn.o,<-i9.o]
 have a4:=o9.o;rw[<-a1,j1]at a4;have d6:wf.heap[k]?=some (.cells #[.int .i64 D.kind,.int .i64 (n:Int),.string D.lead,.slice (some (Ad g 0)) (n+1) (n+1)] 24 (0,0)):=by rw[a1,Ar p8];exact x8.o
 have h6:Below w.heap.size w wf:=by rw[a1];exact h5.o.setCell (p:=(Ad g (st*2))) w0.1 _
 rw[<-a1];clear a1 j1 w0 p8;have r4:(revD D).kind=D.kind:=(BW D D.n).kind;have r6:(revD D).start=(n:Int):=by rw[hn.o];exact(BW D D.n).start
 have r5:(revD D).lead=D.lead:=(BW D D.n).lead;have p9:Ma none wf (.agg #[.int .i64 D.kind,.int .i64 (n:Int),.string D.lead,.slice (some (Ad g 0)) (n+1) (n+1)]) (revD D):=by
  refine⟨.slice (some (Ad g 0)) (n+1) (n+1),by rw[r4,r6,r5],?_⟩;have h1:=a4.sts;rw[show (revQ D n).n=n+1 from l2.o]at h1;exact h1
 have y1:=qh<|Ds wf p9 (KJ HV.o t9.o) (ht.o.below h6 nlr);obtain⟨⟨r0,r1,r2,r3⟩,_⟩:=cells4 d6;have e8:OwM wf w.heap.size (.slice (some (Ad g 0)) (n+1) (n+1)) (revD D) R:=by
  have h1:=a4;rw[show (revQ D n).n=n+1 from l2.o]at h1;exact h1
 replace e8:=qh e8;clear a4 o9;replace d6:=qh d6;have g5:=qh h6;clear h6 p9 r4 r6 r5
 go_wp2_with fail
 clear r0 r1 r2 r3;refine y1.o.mono ?_;rintro r wg⟨m9,hr⟩;have b6:=(m9.block _ (lbk d6.o)).trans d6.o;have t8:=qh<|e8.o.kept (Ab m9 none) (by simp);have x7:=qh<|g5.o.trans (m9.mono g5.o.size);clear m9 y1 g5;obtain⟨⟨r0,r1,r2,r3⟩,rz⟩:=cells4 b6;have f0:=rz 0;have f1:=rz 1;have f2:=rz 2;have f3:=rz 3;clear rz;replace b6:=qh b6
 rcases hr with⟨hq,rfl⟩|⟨hq,rfl⟩
 ·have HQ:=qh hq;clear hq;have s4:=qh<|t8.o.box4 b6.o (.int .i64 D.kind) (.int .i64 (n:Int)) (.string D.lead) (.slice (some (Ad g 0)) (n+1) (n+1))
  go_wp2_with fail
  refine bodyPost_ret (AH rfl _ (b:=k) rfl rfl (AG wg k _ _ _ _ b6.o)) rfl ⟨AF x7.o n6 _ _ _ _,.inl ⟨HV.o,HQ.o,.slice (some (Ad g 0)) (n+1) (n+1),R,?_,s4.o⟩⟩;rw[<-hn.o];rfl
 have HQ:=qh hq;clear hq
 go_wp2_with fail
 exact bodyPost_ret (AH rfl _ (b:=k) rfl rfl (AG wg k _ _ _ _ b6.o)) rfl ⟨AF x7.o n6 _ _ _ _,.inr (.inl ⟨HV.o,HQ.o,rfl⟩)⟩
end
end Go.Proofs.YteappjogmnogcaaGreatDoor
