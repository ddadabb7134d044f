/- Parts. -/
import Derived.Test.YtpldocnhbdlgfaaGreatDoorPc31
namespace Go.Proofs.YtpldocnhbdlgfaaGreatDoor
set_option maxRecDepth 100000
set_option linter.all false
set_option maxHeartbeats 16000000
open Go Tryz
section
open Go.RowKit Go.Deep
def Qv{D:MD}{mv:Value}{nf:FuncId}{fc:Array Value}{φ:Int->Int->Int × Int}{P:World->Prop}(w:World)(hM:Ma none w mv D)(n7:MSz D)(ht:Tab w)(hF:SymF nf fc φ P)(hP:P w)(j7:∀wb,Below w.heap.size w wb->P wb):
  Calls prog 71 #[.agg #[.func (.func nf) #[] fc],mv] w (MkE (VM D) (D.sym φ) 1 w):=by
 obtain⟨sv,rfl,hS⟩:=hM;obtain⟨a,cp,b,a2,A,C,BB,O,rfl,ha,hc,hm,hb,Y⟩:=hS.open;obtain⟨y3,n9⟩:=hF;obtain⟨fv,y4⟩:=exq<|Value.func (.func nf) #[] fc;obtain⟨w1,d1⟩:=exq<|w.alloc (.cells #[.func (.func nf) #[] fc] 110);obtain⟨w2,d2⟩:=exq<|w1.alloc (.cells #[.int .i64 D.kind,.int .i64 D.start,.string D.lead,.slice a D.n cp] 25);obtain⟨w3,f7⟩:=exq<|w2.alloc (.cells #[.int .i64 0,.int .i64 0,.string ⟨#[]⟩,.slice none 0 0] 25);have o2:w1.heap.size=w.heap.size+1:=by rw[d1];simp
 have v7:w2.heap.size=w.heap.size+1+1:=by rw[d2];simp[o2]
 have s3:Fr (λ_=>False) w w1:=by rw[d1];exact Fr.alloc _ _
 have k9:Fr (λ_=>False) w1 w2:=by rw[d2];exact Fr.alloc _ _
 have g7:Fr (λ_=>False) w2 w3:=by rw[f7];exact Fr.alloc _ _
 have v0:w1.heap[w.heap.size]?=some (.cells #[.func (.func nf) #[] fc] 110 (0,0)):=by rw[d1];exact han w _
 have v2:w2.heap[w.heap.size+1]?=some (.cells #[.int .i64 D.kind,.int .i64 D.start,.string D.lead,.slice a D.n cp] 25 (0,0)):=by rw[<-o2,d2];exact han w1 _
 have l5:w3.heap[w.heap.size+1+1]?=some (.cells #[.int .i64 0,.int .i64 0,.string ⟨#[]⟩,.slice none 0 0] 25 (0,0)):=by rw[<-v7,f7];exact han w2 _
 have j8:w3.heap[w.heap.size]?=some (.cells #[.func (.func nf) #[] fc] 110 (0,0)):=(g7.block _ (by omega) (λe=>e)).trans ((k9.block _ (by omega) (λe=>e)).trans v0);have h3:w3.heap[w.heap.size+1]?=some (.cells #[.int .i64 D.kind,.int .i64 D.start,.string D.lead,.slice a D.n cp] 25 (0,0)):=(g7.block _ (by omega) (λe=>e)).trans v2;have g5:Below w.heap.size w w3:=((s3.trans k9).trans g7).below nlr (λ_ e=>e.elim);obtain⟨cb,j9⟩:=exq<|w.heap.size;obtain⟨mb,h4⟩:=exq<|w.heap.size+1;obtain⟨u,m8⟩:=exq<|w.heap.size+1+1;have g9:w.heap.size<=u:=by omega
 have x0:cb≠u:=by omega
 have x2:mb≠u:=by omega
 rw[<-j9]at j8;rw[<-h4]at h3;rw[<-m8]at l5;obtain⟨⟨m0,m1,m2,m3⟩,mz⟩:=cells4 h3;clear mz;have q8:=qh<|Dz w3 (⟨_,rfl,hS.kept (Ae g5 none)⟩:Ma none w3 (.agg #[.int .i64 D.kind,.int .i64 D.start,.string D.lead,.slice a D.n cp]) D) n7 (ht.below g5 nlr);clear s3 k9 g7 v0 v2 o2 v7;have i7:=qh g5;clear g5;have j0:=qh j8;clear j8;have j3:=qh h3;clear h3;have j5:=qh l5;clear l5;replace n7:=qh n7;replace ha:=qh ha;replace hb:=qh hb;have HR:=qh Y;clear Y hS;replace j7:=qh j7;clear hP ht;replace n9:=qh n9;rw[h4,f7,d2,d1]at m0 m1 m2 m3
 go_enter func71,ntmps71
 go_wp2_with fail
 rw[<-d1,<-d2,<-f7,<-m8,<-h4,<-j9];clear m0 m1 m2 m3 d1 d2 f7 m8 h4;have x8:w.heap.size<=cb:=by omega
 clear j9;refine q8.o.mono ?_;rintro r w4⟨e1,hr⟩;have i4:=i7.o.trans<|e1.mono i7.o.size;have r7:=(e1.block _ (lbk j0.o)).trans j0.o;have l6:=(e1.block _ (lbk j3.o)).trans j3.o;have m5:=(e1.block _ (lbk j5.o)).trans j5.o;clear e1 q8 i7 j0 j3 j5;obtain⟨⟨r0,r1,r2,r3⟩,rz⟩:=cells4 m5;have f0:=rz 0;have f1:=rz 1;have f2:=rz 2;have f3:=rz 3;clear rz;have i8:=qh i4;clear i4;have o7:=qh r7;clear r7;have j6:=qh m5;clear m5;obtain⟨⟨m0,m1,m2,m3⟩,mz⟩:=cells4 l6;clear mz;have p0:=qh l6;clear l6
 rcases hr with⟨B,rfl⟩|⟨B,rfl⟩
 rotate_left
 ·have HV:=qh B;clear B;clear m0 m1 m2 m3
  go_wp2_with fail
  refine bodyPost_ret (AJ rfl _ (b:=u) rfl rfl (AE w4 u _ _ _ _ j6.o)) rfl ⟨Ax i8.o g9 _ _ _ _,.inr ⟨HV.o,rfl⟩⟩
 have x3:1<=D.n:=B.n1;have x4:D.n<=3000:=B.n2;have l9:∀i,i<D.n->D.na i<=30000:=λi hi=>by have h1:=Nat.le_trans (DR D (show i+1<=D.n by omega)) B.arcs;have h2:Ai D (i+1)=Ai D i+D.na i:=rfl;omega
 have HV:=qh B;clear B;replace l9:=qh l9;obtain rfl:=ha.o (by omega);unfold maxLen at hm;have d0:=Ov (P:=prog) 23 63 _ 2 40 underlying23 Fc .i64 .i64 D.n (by omega) (by omega);obtain⟨n,hn⟩:=exq<|D.n;rw[<-hn]at x3 x4 d0 m3 hc;obtain⟨zs,d4⟩:=exq<|madeCells (Value.agg #[.string ⟨#[]⟩,.slice none 0 0]).cells (n*2);rw[<-d4]at d0;have o4:zs.size=n*2:=by rw[d4];exact size_madeCells _ _
 replace o4:=qh o4;clear d4;have HN:=qh hn;rw[<-hn];clear hn
 go_wp2_with fail
 refine AD (λwk=>wk.cell? (Ad mb 0)=some (.int .i64 D.kind)/\wk.cell? (Ad mb 1)=some (.int .i64 D.start)/\wk.cell? (Ad mb 2)=some (.string D.lead)/\wk.cell? (Ad mb 3)=some (.slice (some (Ad b a2)) n cp)) 11 (by kernel_rfl) ?_;obtain⟨z,s⟩:=exq<|w4.drew;have k:z.cell? (Ad mb 0)=some (.int .i64 D.kind)/\z.cell? (Ad mb 1)=some (.int .i64 D.start)/\z.cell? (Ad mb 2)=some (.string D.lead)/\z.cell? (Ad mb 3)=some (.slice (some (Ad b a2)) n cp):=by rw[s];exact⟨m0,m1,m2,m3⟩
 rw[<-s];clear m0 m1 m2 m3 r0 r1 r2 r3 f0 f1 f2 f3;have r5:Below w.heap.size w z:=by rw[s];exact i8.o.drew
 have r9:z.heap[cb]?=some (.cells #[.func (.func nf) #[] fc] 110 (0,0)):=by rw[s];exact o7.o
 have v5:z.heap[mb]?=some (.cells #[.int .i64 D.kind,.int .i64 D.start,.string D.lead,.slice (some (Ad b a2)) D.n cp] 25 (0,0)):=by rw[s];exact p0.o
 have v6:z.heap[u]?=some (.cells #[.int .i64 0,.int .i64 0,.string ⟨#[]⟩,.slice none 0 0] 25 (0,0)):=by rw[s];exact j6.o
 have g0:=qh r5;clear r5 i8 o7 p0 j6;have g1:=qh r9;clear r9;have g4:=qh v5;clear v5;have a4:=qh v6;clear v6 s;refine Aa.tm 0 k ?_;refine Aa.tm 1 k ?_;refine Aa.tm 2 k ?_;refine Aa.tm 3 k ?_;refine Aa.tm 4 k ?_;refine Aa.tm 5 k ?_;refine Aa.tm 6 k ?_;refine Aa.tm 7 k ?_;refine Aa.tm 8 k ?_
 try simp only[Act.put,tryL]
 refine Aa.on 9 λK E=>?_;go_simp;obtain⟨g,hg⟩:=exq<|z.heap.size;obtain⟨wa,h7⟩:=exq<|z.alloc (.cells zs 63);have e5:Fr (λ_=>False) z wa:=by rw[h7];exact Fr.alloc _ _
 have t7:wa.heap[g]?=some (.cells zs 63 (0,0)):=by rw[h7,hg];exact han z _
 have r8:=(e5.block _ (lbk g1.o) (λe=>e)).trans g1.o;have l7:=(e5.block _ (lbk g4.o) (λe=>e)).trans g4.o;have m7:=(e5.block _ (lbk a4.o) (λe=>e)).trans a4.o;have q9:Below w.heap.size w wa:=g0.o.trans<|e5.below g0.o.size (λ_ e=>e.elim);have t8:w.heap.size<=g:=by rw[hg];exact g0.o.size
 have t9:g≠u:=by rw[hg];have:=lbk a4.o;omega
 have y6:g≠mb:=by rw[hg];have:=lbk g4.o;omega
 have x1:g≠cb:=by rw[hg];have:=lbk g1.o;omega
 rw[<-h7,<-hg];clear h7 hg;have S:wa.cell? (Ad mb 0)=some (.int .i64 D.kind)/\wa.cell? (Ad mb 1)=some (.int .i64 D.start)/\wa.cell? (Ad mb 2)=some (.string D.lead)/\wa.cell? (Ad mb 3)=some (.slice (some (Ad b a2)) n cp):=by rw[HN.o];exact(cells4 l7).1
 refine E.out _ _ (.inr S) ?_;clear E K d0
 try simp only[Act.put,tryL]
 obtain⟨⟨r0,r1,r2,r3⟩,rz⟩:=cells4 m7;have f0:=rz 0;have f1:=rz 1;have f2:=rz 2;have f3:=rz 3;clear rz e5 g0 g1 g4 a4 k;have j2:=qh t7;clear t7;have j1:=qh r8;clear r8;have j4:=qh l7;clear l7;have p8:=qh m7;clear m7;have i9:=qh q9;clear q9;refine Aa.on 10 λK E=>?_;go_simp;refine E.out _ _ (.inr S) ?_;clear E K
 try simp only[Act.put,tryL]
 refine Aa.on 11 λK E=>?_;go_simp;refine E.out _ _ (.inl rfl) (Aa.dn ?_);clear E K S;obtain⟨wb,h8⟩:∃wb,wb=(((wa.setCell ⟨u,0,none⟩ (.int .i64 D.kind)).setCell (Ad u 1) (.int .i64 D.start)).setCell (Ad u 2) (.string D.lead)).setCell (Ad u 3) (.slice (some (Ad g 0)) n n):=⟨_,rfl⟩;have e6:Fr (λq=>q=u) wa wb:=by rw[h8];exact(((((Fr.refl (λq=>q=u) wa).set (p:=(Ad u 0)) (.inl rfl) _).set (p:=(Ad u 1)) (.inl rfl) _).set (p:=(Ad u 2)) (.inl rfl) _).set (p:=(Ad u 3)) (.inl rfl) _)
 have h5:wb.heap[u]?=some (.cells #[.int .i64 D.kind,.int .i64 D.start,.string D.lead,.slice (some (Ad g 0)) n n] 25 (0,0)):=by rw[h8];exact AE wa u _ _ _ _ p8.o
 have g8:=(e6.block _ (lbk j2.o) t9).trans j2.o;have k0:=(e6.block _ (lbk j1.o) x0).trans j1.o;have l8:=(e6.block _ (lbk j4.o) x2).trans j4.o;have e3:Below w.heap.size w wb:=i9.o.trans (e6.below i9.o.size (λq e=>by rw[e];exact g9));have r3:=(cells4 h5).1.2.2.2;have m3:=(cells4 l8).1.2.2.2;rw[<-HN.o]at m3;obtain⟨Q,b6⟩:∃Q:Nat->Value,Q=λi=>.slice (A i) (D.na i) (C i):=⟨_,rfl⟩;obtain⟨cs,b9⟩:=exq<|cat (st2 D Q) n;have J:cs.length=n*2:=by rw[b9];exact CS (Dq D Q) n
 have X:∀v ∈ cs,v.oneCell'=true:=by
  rw[b9];refine GH (λi v B=>?_) n;rw[b6]at B;simp[st2]at B
  rcases B with rfl|rfl<;>rfl
 have Z:∀j v,cs[j]?=some v->wb.cell? (((Ad b a2):Addr).add j)=some v:=by
  rw[b9];refine IK (by omega) (Dq D Q) (λi j hi hj v B=>?_);have r6:=(hb.o (by have:=HN.o;omega)).1;obtain⟨k1,k2,_⟩:=HR.o i (by have:=HN.o;omega);rw[b6]at B;have:j=0\/j=1:=by omega
  rcases this with rfl|rfl
  ·cases B;exact(e3.cell (p:=(Ad b (a2+i*2))) r6).trans k1
  cases B;exact(e3.cell (p:=(Ad b (a2+i*2+1))) r6).trans k2
 rw[<-h8];have i2:=qh J;clear J;have p6:=qh X;clear X;have q7:=qh Z;clear Z;replace b9:=qh b9;replace b6:=qh b6;replace h5:=qh h5;replace g8:=qh g8;replace k0:=qh k0;replace l8:=qh l8;replace e3:=qh e3;clear h8 e6 j2 j1 j4 p8 i9 r0 r1 r2 f0 f1 f2 f3;have T:=Ot (P:=prog) wb 23 23 3 63 2 n g n (some (Ad b a2)) cp zs 63 cs underlying23 (by kernel_rfl) g8.o i2.o o4.o (λ_=>⟨_,rfl,q7.o⟩) p6.o;obtain⟨wc,d3⟩:=exq<|wb.setRow g cs.toArray;rw[<-d3]at T;have o:wc.ownsRow w.heap.size 63 2 (.slice (some (Ad g 0)) n n) n cs:=by rw[d3];exact NG g8.o t8 (by unfold maxLen;omega) cs i2.o
 have r4:Below w.heap.size w wc:=by rw[d3];exact below_setRow e3.o t8 _
 have I:ApI w wc cb u g 0 (.func (.func nf) #[] fc) D φ Q Q:=by
  refine⟨r4,?_,?_,g9,?_,λi hi=>absurd hi (Nat.not_lt_zero _),λi j hi=>absurd hi (Nat.not_lt_zero _)⟩
  ·rw[d3];exact(setRow_other wb g cb _ (λe=>x1 e.symm)).trans k0.o
  ·rw[d3,<-HN.o];exact(setRow_other wb g u _ (λe=>t9 e.symm)).trans h5.o
  rw[<-HN.o];rw[b9.o]at o;rw[show cat (st2 D (λi=>if i<0 then Q i else Q i)) n=cat (st2 D Q) n from BC λi _=>by simp]
  exact o
 have r3:wc.cell? (Ad u 3)=some (.slice (some (Ad g 0)) n n):=by
  have:=(cells4 I.kr).1.2.2.2;rw[<-HN.o]at this;exact this
 have c:=qh I;clear I o r4 d3
 go_wp2_with fail
 clear T r3 m3
 go_loopw [33] (λo5 wr=>∃(q:Nat) (R:Nat->Value),q<=n/\o5=.int .i64 (q:Int)/\ApI w wr cb u g q (.func (.func nf) #[] fc) D φ R Q) (λo5 _=>n-(intOf o5).toNat)
 case atStart=>exact⟨0,Q,Nat.zero_le _,rfl,c.o⟩
 obtain⟨q,R,hq,rfl,I⟩:=hrel;obtain⟨wo,x7⟩:=exq<|wr;clear x7;clear c;have c:=qh I;clear I;by_cases y7:q<n
 ·have y8:(q:Int)<(n:Int):=by omega
  have y0:(0:Int)<=(q:Int):=by omega
  have H:q<D.n:=by have:=HN.o;omega
  obtain⟨k1,k2,k3,k4,k5,k6,k7⟩:=HR.o q H;have x6:=l9.o q H;clear k1 k2;unfold maxLen at k4;have o:=c.o.top;have t0:wr.cell? (Ad g (q*2))=some (.string (D.fin q)):=Cr o (by
   have:=Cw (Dq D (λi=>if i<q then R i else Q i)) (i:=q) (j:=0) (by omega) H
   rw[Nat.add_zero]at this;rw[this];rfl)
  have t1:wr.cell? (Ad g (q*2+1))=some (.slice (A q) (D.na q) (C q)):=Cr o (by
   rw[Cw (Dq D (λi=>if i<q then R i else Q i)) (i:=q) (j:=1) (by omega) H]
   show some (if q<q then R q else Q q)=_
   rw[ifn (Nat.lt_irrefl _),b6.o])
  clear o;obtain⟨aq,d7⟩:=exq<|A q;obtain⟨nq,l⟩:=exq<|D.na q;obtain⟨cq,b8⟩:=exq<|C q;obtain⟨fq,l2⟩:=exq<|D.fin q;rw[<-d7,<-l,<-b8]at t1;rw[<-l2]at t0;rw[<-d7,<-l]at k5;rw[<-l]at k6 k7 x6;rw[<-l,<-b8]at k3;rw[<-b8]at k4;replace d7:=qh d7;replace b8:=qh b8;replace l:=qh l;replace l2:=qh l2;replace k5:=qh k5;replace k6:=qh k6;replace k7:=qh k7;obtain⟨sb,a8⟩:=exq<|wr.heap.size;obtain⟨w5,f8⟩:=exq<|wr.alloc (.cells #[.string fq,.slice aq nq cq] 63);have v8:w5.heap.size=sb+1:=by rw[f8,a8];simp
  obtain⟨zq,o3⟩:=exq<|madeCells (Value.agg #[.int .i64 0,.int .i64 0,.string ⟨#[]⟩,.int .i64 0]).cells (nq*4);have d4:zq.size=nq*4:=by rw[o3];exact size_madeCells _ _
  have d0:=Ov (P:=prog) 61 59 _ 4 40 underlying61 FH .i64 .i64 nq (by omega) (by omega);rw[<-o3]at d0;clear o3;obtain⟨w6,h6⟩:=exq<|w5.alloc (.cells zq 59);obtain⟨m,e7⟩:=exq<|sb+1;have s4:Fr (λ_=>False) wr w5:=by rw[f8];exact Fr.alloc _ _
  have l0:Fr (λ_=>False) w5 w6:=by rw[h6];exact Fr.alloc _ _
  have F:=s4.trans l0;have b5:w5.heap[sb]?=some (.cells #[.string fq,.slice aq nq cq] 63 (0,0)):=by rw[f8,a8];exact han wr _
  have f5:=(l0.block _ (lbk b5) (λe=>e)).trans b5;have l3:w6.heap[m]?=some (.cells zq 59 (0,0)):=by rw[h6,e7,<-v8];exact han w5 _
  have e2:Below w.heap.size w w6:=c.o.hb.trans<|F.below c.o.hb.size (λ_ e=>e.elim);obtain⟨az,d8⟩:=exq<|cat (arc4 D q) nq;have J:az.length=nq*4:=by rw[d8];exact CS (DO D q) nq
  have X:∀v ∈ az,v.oneCell'=true:=by
   rw[d8];refine GH (λi v B=>?_) nq;simp[arc4]at B
   rcases B with rfl|rfl|rfl|rfl<;>rfl
  have Z:0<nq->∃ad,aq=some ad/\∀j v,az[j]?=some v->w6.cell? (ad.add j)=some v:=λh0=>by
   refine⟨_,k5.o h0,?_⟩;rw[d8];refine IK (by omega) (DO D q) (λi j hi hj v B=>?_);have g6:=(k6.o h0).1;obtain⟨t0,t1,t2,t3⟩:=k7.o i hi;have:j=0\/j=1\/j=2\/j=3:=by omega
   rcases this with rfl|rfl|rfl|rfl
   ·cases B;exact(e2.cell (p:=(Ad (BB q) (O q+i*4))) g6).trans t0
   ·cases B;exact(e2.cell (p:=(Ad (BB q) (O q+i*4+1))) g6).trans t1
   ·cases B;exact(e2.cell (p:=(Ad (BB q) (O q+i*4+2))) g6).trans t2
   cases B;exact(e2.cell (p:=(Ad (BB q) (O q+i*4+3))) g6).trans t3
  have T:=Ot (P:=prog) w6 61 61 3 59 4 nq m nq aq cq zq 59 az underlying61 (by kernel_rfl) l3 J d4 Z X;obtain⟨w7,f9⟩:=exq<|w6.setRow m az.toArray;rw[<-f9]at T;have l4:w.heap.size<=m:=by have:=c.o.hb.size;omega
  have f4:w7.ownsRow w.heap.size 59 4 (.slice (some (Ad m 0)) nq nq) nq (cat (mixA D φ q 0) nq):=by
   rw[Uf,<-d8,f9];exact NG l3 l4 (by unfold maxLen;omega) az J
  have W:Fr (λx=>x=m) wr w7:=by
   rw[f9];exact⟨F.os,F.tape,F.output,by simp[World.setRow];exact F.size,λx hx x5=>(setRow_other w6 m x _ x5).trans (F.block x hx (λe=>e))⟩
  have i6:w7.heap[sb]?=some (.cells #[.string fq,.slice aq nq cq] 63 (0,0)):=by rw[f9];exact(setRow_other w6 m sb _ (by omega)).trans f5
  have s5:w5.cell? (Ad sb 1)=some (.slice aq nq cq):=by simp[World.cell?,b5]
  have s6:w6.cell? (Ad sb 1)=some (.slice aq nq cq):=by simp[World.cell?,f5]
  have d6:=qh f4;clear f4;replace W:=qh W;replace i6:=qh i6;have y5:g≠m:=by
   have:=(World.ownsRow.lt c.o.top g rfl).2;omega
  have v3:wr.heap.size<=m:=by omega
  clear s4 l0 F b5 f5 l3 e2 J X Z f9 d8 v8 d4;rw[h6]at s6 T;rw[f8]at s5 s6 T;rw[a8]at s5 s6;rw[e7,a8]at T;replace a8:=qh a8;replace e7:=qh e7;clear f8 h6
  go_wp2_with fail
  rw[<-a8.o,<-e7.o];clear T s5 s6 t0 t1 d0;have m4:∀wz,Fr (λx=>x=m) w7 wz->P wz:=λwz h=>j7.o wz (c.o.hb.trans ((W.o.trans h).below c.o.hb.size (λx e=>by rw[e];exact l4)));replace m4:=qh m4;have b0:w7.heap[cb]?=some (.cells #[.func (.func nf) #[] fc] 110 (0,0)):=(W.o.block _ (lbk c.o.kc) (by have:=lbk c.o.kc;omega)).trans c.o.kc;replace b0:=qh b0;have w9:cb≠m:=by have:=lbk c.o.kc;omega
  go_loopw [48] (λo6 wz=>∃d:Nat,d<=nq/\o6=.int .i64 (d:Int)/\wz.ownsRow w.heap.size 59 4 (.slice (some (Ad m 0)) nq nq) nq (cat (mixA D φ q d) nq)/\Fr (λx=>x=m) w7 wz) (λo6 _=>nq-(intOf o6).toNat)
  case atStart=>exact⟨0,Nat.zero_le _,rfl,d6.o,Fr.refl _ _⟩
  obtain⟨d,hd,rfl,Y,s9⟩:=hrel;clear d6;have a9:=qh Y;clear Y;have g3:=qh s9;clear s9;by_cases a7:d<nq
  ·have y2:(d:Int)<(nq:Int):=by omega
   have x9:(0:Int)<=(d:Int):=by omega
   obtain⟨z,s⟩:=exq<|wr.drew;obtain⟨ai,a5⟩:=exq<|D.ain q d;obtain⟨ao,a6⟩:=exq<|D.aout q d;have b3:Fr (λx=>x=m) w7 z:=by rw[s];exact g3.o.drew
   have N:z.ownsRow w.heap.size 59 4 (.slice (some (Ad m 0)) nq nq) nq (cat (mixA D φ q d) nq):=by rw[s];exact a9.o
   have i5:z.heap[cb]?=some (.cells #[.func (.func nf) #[] fc] 110 (0,0)):=(b3.block _ (lbk b0.o) w9).trans b0.o;have a0:z.cell? (Ad m (d*4))=some (.int .i64 ai):=Cr N (by
    have:=Cw (FO D φ q d) (i:=d) (j:=0) (by omega) a7;rw[Nat.add_zero]at this;rw[this,a5];unfold mixA;rw[ifn (Nat.lt_irrefl _)];rfl)
   have a1:z.cell? (Ad m (d*4+1))=some (.int .i64 ao):=Cr N (by
    rw[Cw (FO D φ q d) (i:=d) (j:=1) (by omega) a7,a6];unfold mixA;rw[ifn (Nat.lt_irrefl _)];rfl)
   have k:z.cell? (Ad cb 0)=some (.func (.func nf) #[] fc)/\z.cell? (Ad m (d*4))=some (.int .i64 ai)/\z.cell? (Ad m (d*4+1))=some (.int .i64 ao):=⟨by simp[World.cell?,i5],a0,a1⟩;have e4:=n9.o z (m4.o z b3) ai ao (by rw[a5];exact(HV.o.arc q d H (by rw[<-l.o];exact a7)).i0) (by rw[a5];exact(HV.o.arc q d H (by rw[<-l.o];exact a7)).i1) (by rw[a6];exact(HV.o.arc q d H (by rw[<-l.o];exact a7)).o0) (by rw[a6];exact(HV.o.arc q d H (by rw[<-l.o];exact a7)).o1);have d5:=qh e4;clear e4 a0 a1 i5;have o8:=qh b3;clear b3 g3;have a4:=qh N;clear N a9
   go_wp2_with fail
   refine Gd (λwk=>wk.cell? (Ad cb 0)=some (.func (.func nf) #[] fc)/\wk.cell? (Ad m (d*4))=some (.int .i64 ai)/\wk.cell? (Ad m (d*4+1))=some (.int .i64 ao)) [0,1,2,3,17,18,19,20,21,22,23,24,25] (by kernel_rfl) ?_;rw[<-s];have y1:=qh s;clear s;replace a5:=qh a5;replace a6:=qh a6;refine AnyL.tq 0 ?_;refine AnyL.tq 1 ?_;refine AnyL.tq 2 ?_;refine AnyL.tq 3 ?_
   try simp only[Act.put,tryL]
   refine AnyL.tm 4 k ?_;refine AnyL.tm 5 k ?_;refine AnyL.tm 6 k ?_;refine AnyL.tm 7 k ?_;refine AnyL.tm 8 k ?_;refine AnyL.tm 9 k ?_;refine AnyL.tm 10 k ?_;refine AnyL.tm 11 k ?_;refine AnyL.tm 12 k ?_;refine AnyL.tm 13 k ?_;refine AnyL.tm 14 k ?_;refine AnyL.tm 15 k ?_
   try simp only[Act.put,tryL]
   refine AnyL.on 16 λK E=>?_;go_simp;refine d5.o.mono ?_;rintro r we⟨rfl,b7⟩;have s7:Fr (λx=>x=m) w7 we:=o8.o.trans<|Fr.of_below b7;have m9:we.ownsRow w.heap.size 59 4 (.slice (some (Ad m 0)) nq nq) nq (cat (mixA D φ q d) nq):=AG a4.o (Ae b7 none) (λ_ _=>by simp);have S:we.cell? (Ad cb 0)=some (.func (.func nf) #[] fc)/\we.cell? (Ad m (d*4))=some (.int .i64 ai)/\we.cell? (Ad m (d*4+1))=some (.int .i64 ao):=⟨(Ae b7 none).cell k.1 (by simp),(Ae b7 none).cell k.2.1 (by simp),(Ae b7 none).cell k.2.2 (by simp)⟩;refine E.out _ _ (.inr S) ?_;clear E K k b7 d5 o8 a4;have f0:=DD m9 (d*4);have c0:=S.2.1;have c1:=S.2.2;clear S;have o9:=qh s7;clear s7;have p9:=qh m9;clear m9;obtain⟨b1,d9⟩:∃b1,b1=(φ ai ao).1:=⟨_,rfl⟩;obtain⟨b2,e0⟩:∃b2,b2=(φ ai ao).2:=⟨_,rfl⟩;rw[<-d9,<-e0];replace d9:=qh d9;replace e0:=qh e0;refine AnyL.loose' (by kernel_rfl) ?_
   try simp only[Act.put,tryL]
   refine AnyL.tm 17 trivial ?_;refine AnyL.tm 18 trivial ?_;refine AnyL.tm 19 trivial ?_;refine AnyL.tm 20 trivial ?_;refine AnyL.tm 21 trivial ?_
   try simp only[Act.put,tryL]
   refine AnyL.on 22 λK E=>?_;go_simp;refine E.out _ _ (.inr trivial) ?_;clear E K
   try simp only[Act.put,tryL]
   refine AnyL.on 23 λK E=>?_;go_simp;refine E.out _ _ (.inr trivial) ?_;clear E K
   try simp only[Act.put,tryL]
   refine AnyL.on 24 λK E=>?_;go_simp;refine E.out _ _ (.inr trivial) ?_;clear E K
   try simp only[Act.put,tryL]
   have e9:=EA p9.o (d*4) (.int .i64 b1);have w0:(we.setCell (Ad m (d*4)) (.int .i64 b1)).cell? (Ad m (d*4+1))=some (.int .i64 ao):=by rw[World.cell?_setCell_other _ _ _ _ (by simp)];exact c1
   have w8:=DD e9 (d*4+1);have i3:=qh e9;clear e9;clear c0 f0 c1;refine AnyL.on 25 λK E=>?_;go_simp;refine E.out _ _ (.inr trivial) (AnyL.dn ?_);clear E K w0 w8;obtain⟨wf,h9⟩:∃wf,wf=(we.setCell ⟨m,d*4,none⟩ (.int .i64 b1)).setCell (Ad m (d*4+1)) (.int .i64 b2):=⟨_,rfl⟩;have n5:wf.ownsRow w.heap.size 59 4 (.slice (some (Ad m 0)) nq nq) nq (cat (mixA D φ q (d+1)) nq):=by
    rw[h9];have h1:=EA i3.o (d*4+1) (.int .i64 b2);rw[d9.o,e0.o,a5.o,a6.o]at h1;rw[d9.o,e0.o,a5.o,a6.o];have h2:=Ug (D:=D) (φ:=φ) (q:=q) a7;rw[Nat.add_zero]at h2;rw[h2]at h1;exact h1
   have l1:Fr (λx=>x=m) w7 wf:=by rw[h9];exact(o9.o.set (p:=(Ad m (d*4))) (.inl rfl) _).set (p:=(Ad m (d*4+1))) (.inl rfl) _
   rw[<-h9];replace n5:=qh n5;replace l1:=qh l1;clear h9 i3 p9 o9;go_wp2;go_roundw
   case rel=>exact⟨d+1,by omega,by go_num,n5.o,l1.o⟩
   simp[intOf];omega
  obtain rfl:d=nq:=by omega
  have v4:¬((d:Int)<(d:Int)):=by omega
  have s8:=W.o.trans g3.o;have b4:=c.o.mid s8 v3 l4;have n6:=a9.o;rw[Ue,l.o]at n6;have L:=b4.next H (λi hi e=>by
   have:=(World.ownsRow.lt (c.o.row i hi) m e).2;omega) n6
  rw[<-l.o]at L;have r3:=(cells4 b4.kr).1.2.2.2;have o:=b4.top;have t1:wr.cell? (Ad g (q*2+1))=some (.slice aq d cq):=by
   refine Cr o ?_;rw[Cw (Dq D (λi=>if i<q then R i else Q i)) (i:=q) (j:=1) (by omega) H]
   show some (if q<q then R q else Q q)=_
   rw[ifn (Nat.lt_irrefl _),b6.o];show some (Value.slice (A q) (D.na q) (C q))=_;rw[l.o,<-d7.o,<-b8.o]
  have f1:=DD o (q*2+1);rw[<-HN.o]at r3;replace L:=qh L;clear s8 b4 n6 o;clear a9 g3
  go_wp2_with fail
  clear r3 t1 f1;go_roundw
  case rel=>exact⟨q+1,_,by omega,by go_num,L.o⟩
  simp[intOf];omega
 obtain rfl:q=n:=by omega
 have v4:¬((q:Int)<(q:Int)):=by omega
 have U:=c.o;rw[HN.o]at U;have e8:=U.own;rw[<-HN.o]at e8;obtain⟨⟨r0,r1,r2,r3⟩,rz⟩:=cells4 U.kr;have f0:=rz 0;have f1:=rz 1;have f2:=rz 2;have f3:=rz 3;have G:=U.kr;clear rz U;rw[<-HN.o]at r3 G;have p7:=qh<|e8.box4 G (.int .i64 D.kind) (.int .i64 D.start) (.string D.lead) (.slice (some (Ad g 0)) q q);clear e8;replace G:=qh G;have v9:=qh c.o.hb
 go_wp2_with fail
 refine bodyPost_ret (AJ rfl _ (b:=u) rfl rfl (AE wr u _ _ _ _ G.o)) rfl ⟨Ax v9.o g9 _ _ _ _,.inl ⟨HV.o,_,R,rfl,p7.o⟩⟩
def SC:∀args w,(callFunc 118 args).run prog w=.ok (.enter 118 args) w:=λargs w=>by kernel_rfl
def QZ(w:World)(i o:Int):Calls prog 118 #[.int .i64 i,.int .i64 o] w (λr w'=>r=.returned (.tuple #[.int .i64 o,.int .i64 i])/\w'=w):=by
 go_enter func118,ntmps118
 go_wp2;go_ret2;exact⟨rfl,rfl⟩
def Xl{nf:FuncId}{φ:Int->Int->Int × Int}(c:∀args w,(callFunc nf args).run prog w=.ok (.enter nf args) w)(h:∀w i o,Calls prog nf #[.int .i64 i,.int .i64 o] w (λr w'=>r=.returned (.tuple #[.int .i64 (φ i o).1,.int .i64 (φ i o).2])/\w'=w)):SymF nf #[] φ (λ_=>True) :=
 ⟨c,λw _ i o _ _ _ _=>by
  rw[show ∀a b:Value,(#[a,b]++#[]:Array Value)=#[a,b] from λ_ _=>rfl];exact(h w i o).mono λr w' h=>⟨h.1,by rw[h.2];exact blr⟩⟩
def VW{fn:Func}{p:Tmp}(h:fn.results=#[.cell p 111])(c:Array Value){w:World}{b:Nat}{d g i:FuncId}(l:c.getD p undef=.pointer (some (Ad b 0)))(hb:w.heap[b]?=some (.cells #[.func (.func d) #[] #[],.func (.func g) #[] #[],.func (.func i) #[] #[]] 111 (0,0))):
  (results fn c).run prog w=.ok (.agg #[.func (.func d) #[] #[],.func (.func g) #[] #[],.func (.func i) #[] #[]]) w:=by
 rw[Ke h,l];show ((loadVar 111 (Ad b 0)).run prog w)=_;have m:w.rangeAt b 0 [.func (.func d) #[] #[],.func (.func g) #[] #[],.func (.func i) #[] #[]]:=by
  intro j v k;have o:j<3:=by have:=(List.getElem?_eq_some_iff.1 k).1;simpa using this
  have:j=0\/j=1\/j=2:=by omega
  rcases this with rfl|rfl|rfl<;>(simp at k;subst k;simp[World.cell?,hb])
 exact run_loadVar_mid (P:=prog) w b 0 111 [.func (.func d) #[] #[],.func (.func g) #[] #[],.func (.func i) #[] #[]] _ m underlying111 rfl (by kernel_rfl)
def Ri(w:World):Calls prog 70 #[] w (λr w'=>r=.returned (.agg #[.func (.func 118) #[] #[],.func (.func 119) #[] #[],.func (.func 120) #[] #[]])/\Below w.heap.size w w'):=by
 have c:=(Below.refl w.heap.size w).alloc nlr (.cells #[.func (.func 118) #[] #[],.func (.func 119) #[] #[],.func (.func 120) #[] #[]] 111);replace c:=qh c
 go_enter func70,ntmps70
 go_wp2_with fail
 refine bodyPost_ret (VW rfl _ (b:=w.heap.size) rfl (han w _)) rfl ⟨rfl,c.o⟩
def GP{D:MD}{mv:Value}(w:World)(hM:Ma none w mv D)(a9:MSz D)(ht:Tab w):Calls prog 32 #[mv] w (MkE (VM D) D.inv 1 w):=by
 obtain⟨sv,rfl,hS⟩:=hM;obtain⟨a,J,_,_,_,_,_,_,a8,_⟩:=hS.open;subst a8;obtain⟨Q,G⟩:=exq<|w.alloc (.cells #[.int .i64 D.kind,.int .i64 D.start,.string D.lead,.slice a D.n J] 25);obtain⟨w2,O⟩:=exq<|Q.alloc (.cells #[.int .i64 0,.int .i64 0,.string ⟨#[]⟩,.slice none 0 0] 25);obtain⟨wd,P⟩:=exq<|w2.drew;have b9:Q.heap.size=w.heap.size+1:=by rw[G];simp
 have b4:Fr (λ_=>False) w Q:=by rw[G];exact Fr.alloc _ _
 have a2:Fr (λ_=>False) Q wd:=by rw[P,O];exact(Fr.alloc _ _).drew
 obtain⟨g,a6⟩:=exq<|w.heap.size;obtain⟨h,a7⟩:=exq<|w.heap.size+1;have a4:Q.heap[g]?=some (.cells #[.int .i64 D.kind,.int .i64 D.start,.string D.lead,.slice a D.n J] 25 (0,0)):=by rw[G,a6];exact han w _
 have a5:wd.heap[g]?=some (.cells #[.int .i64 D.kind,.int .i64 D.start,.string D.lead,.slice a D.n J] 25 (0,0)):=(a2.block _ (lbk a4) (λe=>e)).trans a4;have b6:wd.heap[h]?=some (.cells #[.int .i64 0,.int .i64 0,.string ⟨#[]⟩,.slice none 0 0] 25 (0,0)):=by rw[P,a7,<-b9];show w2.heap[Q.heap.size]?=_;rw[O];exact han Q _
 have b3:Below w.heap.size w wd:=(b4.trans a2).below nlr (λ_ e=>e.elim);have b7:w.heap.size<=h:=by omega
 have k:g≠h:=by omega
 have b2:=(cells4 a5).1;replace hS:=qh hS;replace a9:=qh a9;replace ht:=qh ht;have W:=qh b6;clear b6;have u:=qh a5;clear a5 a4;have U:=qh b3;clear b3 b4 a2 b9
 go_enter func32,ntmps32
 go_wp2_with fail
 refine AD (λwk=>wk.cell? (Ad g 0)=some (.int .i64 D.kind)/\wk.cell? (Ad g 1)=some (.int .i64 D.start)/\wk.cell? (Ad g 2)=some (.string D.lead)/\wk.cell? (Ad g 3)=some (.slice a D.n J)) 7 (by kernel_rfl) ?_;rw[<-G,<-O,<-P,<-a7,<-a6];clear G O P a7 a6;refine Aa.tm 2 b2 ?_
 try simp only[Act.put,tryL]
 refine Aa.on 0 λK d=>?_;go_simp;refine(Ri _).mono ?_;rintro r w3⟨rfl,z⟩;have Z:w3.cell? (Ad g 0)=some (.int .i64 D.kind)/\w3.cell? (Ad g 1)=some (.int .i64 D.start)/\w3.cell? (Ad g 2)=some (.string D.lead)/\w3.cell? (Ad g 3)=some (.slice a D.n J):=(cells4 ((z.block _ (lbk u.o)).trans u.o)).1;have b5:=(z.block _ (lbk u.o)).trans u.o;have b8:=(z.block _ (lbk W.o)).trans W.o;have l:=U.o.trans<|z.mono U.o.size;have a1:=Qv (φ:=λi o=>(o,i)) w3 (⟨_,rfl,hS.o.kept (Ae l none)⟩:Ma none w3 (.agg #[.int .i64 D.kind,.int .i64 D.start,.string D.lead,.slice a D.n J]) D) a9.o (ht.o.below l nlr) (Xl SC (λw i o=>QZ w i o)) trivial (λ_ _=>trivial);rw[Xo]at a1;refine d.out _ _ (.inr Z) ?_;clear d K b2 z;have b0:=qh a1;clear a1;have X:=qh b8;clear b8 W;have s:=qh b5;clear b5 u;have I:=qh l;clear l U
 try simp only[Act.put,tryL]
 have d1:∀w,(Instr.index 111 (.agg #[.func (.func 118) #[] #[],.func (.func 119) #[] #[],.func (.func 120) #[] #[]]) (.int .i64 0)).run prog w=.ok (.agg #[.func (.func 118) #[] #[]]) w:=λ_=>by kernel_rfl
 refine Aa.tm 1 Z ?_
 try simp only[Act.put,tryL]
 clear d1;refine Aa.on 3 λK d=>?_;go_simp;refine b0.o.mono ?_;rintro r S⟨A,hr⟩;have j:S.cell? (Ad g 0)=some (.int .i64 D.kind)/\S.cell? (Ad g 1)=some (.int .i64 D.start)/\S.cell? (Ad g 2)=some (.string D.lead)/\S.cell? (Ad g 3)=some (.slice a D.n J):=(cells4 ((A.block _ (lbk s.o)).trans s.o)).1;have L:=(A.block _ (lbk s.o)).trans s.o;have p:=(A.block _ (lbk X.o)).trans X.o;have m:=I.o.trans<|A.mono I.o.size;have d0:w.heap.size<=w3.heap.size:=I.o.size;clear A Z;replace L:=qh L;clear s;replace p:=qh p;clear X;replace m:=qh m;clear I b0;obtain⟨⟨r0,r1,r2,r3⟩,rz⟩:=cells4 p.o;have f0:=rz 0;have f1:=rz 1;have f2:=rz 2;have f3:=rz 3;clear rz;unfold AP at hr
 rcases hr with⟨hv,d2,R,rfl,E⟩|⟨hv,rfl⟩
 ·have HV:=qh hv;clear hv;obtain⟨sa,sc,a8,_,_⟩:=Au E.top;subst a8;have b1:=qh<|E.box4 p.o (.int .i64 D.inv.kind) (.int .i64 D.inv.start) (.string D.inv.lead) (.slice sa D.inv.n sc);clear E;refine d.out _ _ (.inr j) ?_;clear d K
  try simp only[Act.put,tryL]
  refine Aa.tm 4 j ?_;refine Aa.tm 5 j ?_
  try simp only[Act.put,tryL]
  refine Aa.on 6 λK d=>?_;go_simp;obtain⟨H,c⟩:∃H,H=(((S.setCell ⟨h,0,none⟩ (.int .i64 D.inv.kind)).setCell (Ad h 1) (.int .i64 D.inv.start)).setCell (Ad h 2) (.string D.inv.lead)).setCell (Ad h 3) (.slice sa D.inv.n sc):=⟨_,rfl⟩;have C:H.heap[g]?=some (.cells #[.int .i64 D.kind,.int .i64 D.start,.string D.lead,.slice a D.n J] 25 (0,0)):=by rw[c,Ay k,Ay k,Ay k,Ay k];exact L.o
  have F:H.heap[h]?=some (.cells #[.int .i64 D.inv.kind,.int .i64 D.inv.start,.string D.inv.lead,.slice sa D.inv.n sc] 25 (0,0)):=by rw[c];exact AE S h _ _ _ _ p.o
  have B:Below w.heap.size w H:=by rw[c];exact Ax m.o b7 _ _ _ _
  have N:=b1.o;rw[<-c]at N;replace N:=qh N;clear b1;rw[<-c];clear c;refine d.out _ _ (.inr (cells4 C).1) ?_;clear d K C;have Y:=qh F;clear F;have T:=qh B;clear B;clear r0 r1 r2 r3 f0 f1 f2 f3 j
  try simp only[Act.put,tryL]
  refine Aa.on 7 λK d=>?_;go_simp;refine d.out _ _ (.inl rfl) (Aa.dn ?_);clear d K
  go_wp2_with fail
  refine bodyPost_ret (AJ rfl _ (b:=h) rfl rfl Y.o) rfl ⟨T.o,.inl ⟨HV.o,_,R,rfl,CJ N.o d0⟩⟩
 have HV:=qh hv;clear hv;refine d.out _ _ (.inr j) ?_;clear d K
 try simp only[Act.put,tryL]
 refine Aa.tm 4 j ?_;refine Aa.tm 5 j ?_
 try simp only[Act.put,tryL]
 refine Aa.on 6 λK d=>?_;go_simp;obtain⟨H,c⟩:∃H,H=(((S.setCell ⟨h,0,none⟩ (.int .i64 0)).setCell ⟨h,1,none⟩ (.int .i64 0)).setCell (Ad h 2) (.string ⟨#[]⟩)).setCell (Ad h 3) (.slice none 0 0):=⟨_,rfl⟩;have C:H.heap[g]?=some (.cells #[.int .i64 D.kind,.int .i64 D.start,.string D.lead,.slice a D.n J] 25 (0,0)):=by rw[c,Ay k,Ay k,Ay k,Ay k];exact L.o
 have F:H.heap[h]?=some (.cells #[.int .i64 0,.int .i64 0,.string ⟨#[]⟩,.slice none 0 0] 25 (0,0)):=by rw[c];exact AE S h _ _ _ _ p.o
 have B:Below w.heap.size w H:=by rw[c];exact Ax m.o b7 _ _ _ _
 rw[<-c];clear c;refine d.out _ _ (.inr (cells4 C).1) ?_;clear d K C;have Y:=qh F;clear F;have T:=qh B;clear B;clear r0 r1 r2 r3 f0 f1 f2 f3 j
 try simp only[Act.put,tryL]
 refine Aa.on 7 λK d=>?_;go_simp;refine d.out _ _ (.inl rfl) (Aa.dn ?_);clear d K
 go_wp2_with fail
 refine bodyPost_ret (AJ rfl _ (b:=h) rfl rfl Y.o) rfl ⟨T.o,.inr ⟨HV.o,rfl⟩⟩
end
end Go.Proofs.YtpldocnhbdlgfaaGreatDoor
