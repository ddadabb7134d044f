/- Parts. -/
import Derived.Test.YteappjogmnogcaaGreatDoorZ28
namespace Go.Proofs.YteappjogmnogcaaGreatDoor
set_option maxRecDepth 100000
set_option linter.all false
set_option maxHeartbeats 16000000
open Go Tryz
section
open Go.RowKit Go.Deep
def Zg{D:MD}{sv:Value}{v:Nat->ByteArray}{vb:Nat}{i o:Int}(w:World)(hV:VM D)(hD:StS none w sv D)(g4:w.rowIs vb 9 D.n (λj=>.string (v j)))(g5:∀j,smS (v j))(b2:∀i k,smS (D.aw i k)):
  Calls prog 55 #[.agg #[.int .i64 D.kind,.int .i64 D.start,.string D.lead,sv],.slice (some (Ad vb 0)) D.n D.n,.int .i64 i,.int .i64 o,.bool true] w (VerE D.n (Ak D.inZ i 0 v D.n (zerR D.kind,0)) w):=by
 obtain⟨a,cp,b,f2,A,C,BB,O,rfl,ha,hc,hm,hb,d6⟩:=hD.open;unfold maxLen at hm;obtain⟨w1,b6⟩:=exq<|w.alloc (.cells #[.int .i64 D.kind,.int .i64 D.start,.string D.lead,.slice a D.n cp] 24);obtain⟨X,e5⟩:=exq<|w.heap.size;have l4:w1.heap.size=w.heap.size+1:=by rw[b6];simp
 have g2:Fr (λ_=>False) w w1:=by rw[b6];exact Fr.alloc _ _
 have b3:BxM w1 X D (.slice a D.n cp):=by rw[b6,e5];exact BxM.new w D _
 have hz:=FG (D:=D) (a:=a) (cap:=cp) w1 hV.n2;have HZ:=qh hz;clear hz;have f4:=qh<|show Below w.heap.size w w1 from g2.below nlr (λ_ e=>e.elim);have h5:=qh<|g2.row g4 (λe=>e);have j7:=qh g4.lt;have h3:=qh b3;obtain⟨kz,d3⟩:=exq<|Af D.kind;replace d3:=qh d3;replace hV:=qh hV;replace ha:=qh ha;replace hb:=qh hb;replace d6:=qh d6;clear hD;replace g5:=qh g5;have j5:=qh b2;clear b2;have j6:=qh (show X<w1.heap.size by omega);have h4:=qh (show w.heap.size<=w1.heap.size by omega);have m0:=cellOf b3 0 rfl;have m1:=cellOf b3 1 rfl;have m2:=cellOf b3 2 rfl;have m3:=cellOf b3 3 rfl;have j0:D.n<=3000:=hV.o.n2;clear g4 g2 b3 hc l4;have l0:=m0;have l1:=m1;have l2:=m2;have l3:=m3;rw[b6,e5]at l0 l1 l2 l3
 go_enter func55,ntmps55
 go_wp2_with fail
 rw[<-b6,<-e5];clear b6 e5 l0 l1 l2 l3 m0 m1 m2 m3;refine HZ.o.mono ?_;rintro rr w2⟨g1,lb,rfl,i9,j3⟩;have g3:Fr (λ_=>False) w1 w2:=Fr.of_below g1;have H:=qh (show StI w w2 X vb lb D (.slice a D.n cp) v (Ak D.inZ i 0 v 0 (zerR D.kind,0)).1 from
  ⟨h3.o.kept g3 (λe=>e),g3.row h5.o (λe=>e),j3,f4.o.trans (g1.mono f4.o.size),Nat.le_trans h4.o i9,by have:=j6.o;omega,by have:=j7.o;have:=h4.o;omega⟩)
 clear g1 g3 i9 j3 HZ f4 h3 h5
 go_wp2_with fail
 go_loopw [13] (λg9 wr=>∃q:Nat,q<=D.n/\g9=.int .i64 (q:Int)/\(Ak D.inZ i 0 v q (zerR D.kind,0)).2=0/\StI w wr X vb lb D (.slice a D.n cp) v (Ak D.inZ i 0 v q (zerR D.kind,0)).1) (λg9 _=>D.n-(intOf g9).toNat)
 case atStart=>exact⟨0,Nat.zero_le _,rfl,rfl,H.o⟩
 obtain⟨q,hq,rfl,b4,hi⟩:=hrel;clear H;have H:=qh hi;clear hi;replace b4:=qh b4;have m0:=cellOf H.o.bx 0 rfl;have m3:=cellOf H.o.bx 3 rfl;by_cases d4:q<D.n
 ·have m8:(q:Int)<(D.n:Int):=by omega
  have l9:(0:Int)<=(q:Int):=by omega
  obtain rfl:=ha.o (by omega);have cv:=H.o.rv.cell d4;have k0:=(hb.o (by omega)).1;obtain⟨k1,k2,k3,k4,k5,k6,k7⟩:=d6.o q d4;unfold maxLen at k4;have l8:D.na q<=30000:=by have h1:=Nat.le_trans (BA D (show q+1<=D.n by omega)) hV.o.arcs;have h2:Ac D (q+1)=Ac D q+D.na q:=rfl;omega
  obtain⟨aq,i3⟩:=exq<|A q;rw[<-i3]at k2 k5;replace k2:=qh k2;replace k5:=qh k5;replace k6:=qh k6;replace k7:=qh k7;clear i3 k1;obtain⟨Y,J⟩:=exq<|v q;rw[<-J]at cv;replace J:=qh J;obtain⟨s0,e6⟩:=exq<|Ak D.inZ i 0 v q (zerR D.kind,0);have d8:∀j,smS (s0.1 j):=by rw[e6];exact GC q (λj=>Dk D.kind)
  have d7:Ak D.inZ i 0 v (q+1) (zerR D.kind,0)=rowR D.inZ i 0 v q s0:=by rw[e6];rfl
  rw[<-e6]at H b4;have h6:=qh d7;clear d7 e6;replace d8:=qh d8;have T:∀W,Fr (λ_=>False) wr W->(λg:World=>g.cell? (Ad vb q)=some (.string Y)/\g.cell? (Ad X 0)=some (.int .i64 D.kind)) W:=λW hf=>⟨hf.cell cv (λe=>e),hf.cell m0 (λe=>e)⟩;have E:=qh T;clear T;obtain⟨wd,g6⟩:=exq<|wr.drew;have i8:Fr (λ_=>False) wr wd:=by rw[g6];exact Fr.of_below<|(Below.refl wr.heap.size wr).drew
  have f8:=qh i8;clear i8;have g7:=DJ D.kind wd;rw[<-d3.o]at g7;have h7:=qh g7;clear g7
  go_wp2_with fail
  have c:=E.o wd f8.o;refine Au (λg:World=>g.cell? (Ad vb q)=some (.string Y)/\g.cell? (Ad X 0)=some (.int .i64 D.kind)) 7 (by kernel_rfl) ?_;rw[<-g6];clear g6 cv m0 m3;refine Aa.tm 0 c ?_;refine Aa.tm 1 c ?_;refine Aa.tm 2 c ?_;refine Aa.tm 3 c ?_;refine Aa.tm 4 c ?_;refine Aa.tm 5 c ?_
  try simp only[Act.put,tryL]
  refine Aa.on 6 λK R=>?_;go_simp;refine h7.o.mono ?_;rintro rr w3⟨rfl,i4⟩;have f7:=qh<|f8.o.trans (Fr.of_below i4);have h9:=E.o w3 f7.o;clear i4 c h7;refine R.out _ _ (.inr h9) ?_;clear R K
  try simp only[Act.put,tryL]
  refine Aa.on 7 λK R=>?_;go_simp;refine R.out _ _ (.inl rfl) (Aa.dn ?_);clear R K h9;have f9:=qh<|H.o.new f7.o;clear H f8 E f7;cases hO:(Y.toList==kz.toList)
  ·have d9:v q≠Af D.kind:=λe=>by rw[<-J.o,<-d3.o]at e;rw[e]at hO;simp at hO
   have b0:=qh<|h6.o.trans (ifn d9);clear d9
   go_wp2_with fail
   go_loopw [14] (λh0 wr=>∃d:Nat,d<=D.na q/\h0=.int .i64 (d:Int)/\(AM D.inZ i 0 v q d s0).2=0/\StI w wr X vb lb D (.slice (some (Ad b f2)) D.n cp) v (AM D.inZ i 0 v q d s0).1) (λh0 _=>D.na q-(intOf h0).toNat)
   case atStart=>exact⟨0,Nat.zero_le _,rfl,b4.o,f9.o⟩
   obtain⟨d,hd,rfl,b5,hi⟩:=hrel;clear f9;have H:=qh hi;clear hi;replace b5:=qh b5;have m0:=cellOf H.o.bx 0 rfl;have m3:=cellOf H.o.bx 3 rfl;have c1:=(H.o.be.cell (p:=(Ad b (f2+q*2+1))) k0).trans k2.o;by_cases i6:d<D.na q
   ·have m7:(d:Int)<(D.na q:Int):=by omega
    have l7:(0:Int)<=(d:Int):=by omega
    have e4:=(k6.o (by omega)).1;obtain⟨t0,t1,t2,t3⟩:=k7.o d i6;obtain rfl:=k5.o (by omega);have c2:=(H.o.be.cell (p:=(Ad (BB q) (O q+d*4))) e4).trans t0;have c3:=(H.o.be.cell (p:=(Ad (BB q) (O q+d*4+1))) e4).trans t1;have c4:=(H.o.be.cell (p:=(Ad (BB q) (O q+d*4+2))) e4).trans t2;have c5:=(H.o.be.cell (p:=(Ad (BB q) (O q+d*4+3))) e4).trans t3;clear t0 t1 t2 t3;have g0:=hV.o.arc q d d4 i6;obtain⟨L,f0⟩:∃L:Nat,D.ato q d=(L:Int):=⟨(D.ato q d).toNat,by have:=g0.t0;omega⟩;have j4:L<D.n:=by have:=g0.t1;omega
    obtain⟨s1,e7⟩:=exq<|AM D.inZ i 0 v q d s0;have a9:∀j,smS (s1.1 j):=by rw[e7];exact GP d d8.o
    rw[<-e7]at H b5;have j1:AM D.inZ i 0 v q (d+1) s0=if D.ain q d=i/\(0:Int)=0 then addR D.kind s1.1 L Y (D.aw q d) else s1:=by
     show (if (AM D.inZ i 0 v q d s0).2≠0 then AM D.inZ i 0 v q d s0 else if D.ain q d=i/\(0:Int)=0 then addR D.kind (AM D.inZ i 0 v q d s0).1 (D.ato q d).toNat (v q) (D.aw q d) else AM D.inZ i 0 v q d s0)=_
     rw[<-e7,ifn (by rw[b5.o];simp),f0,J.o];rfl
    have P:=qh j1;clear j1 e7;rw[f0]at c5;replace f0:=qh f0;obtain⟨I,i2⟩:=exq<|D.ain q d;obtain⟨ao,f3⟩:=exq<|D.aout q d;obtain⟨aw,b2⟩:=exq<|D.aw q d;have e9:smS aw:=by rw[b2];exact j5.o q d
    have e8:smS Y:=by rw[J.o];exact g5.o q
    rw[<-i2]at c2 P;rw[<-f3]at c3;rw[<-b2]at c4 P;clear i2 f3 b2 g0;obtain⟨w4,U⟩:=exq<|wr.alloc (.cells #[.int .i64 I,.int .i64 ao,.string aw,.int .i64 (L:Int)] 59);obtain⟨xb,b7⟩:=exq<|wr.heap.size;have i7:Fr (λ_=>False) wr w4:=by rw[U];exact Fr.alloc _ _
    have f1:w4.heap[xb]?=some (.cells #[.int .i64 I,.int .i64 ao,.string aw,.int .i64 (L:Int)] 59 (0,0)):=by rw[U,b7];exact han wr _
    have l:=qh<|H.o.new i7;have x0:=cellOf f1 0 rfl;have x1:=cellOf f1 1 rfl;have b1:=qh f1;have e0:=x0;have e1:=x1;rw[U,b7]at e0 e1;clear i7 f1;by_cases h1:I=i
    ·by_cases h2:ao=o
     ·have h8:(I==i)=true:=by simp[h1]
      have j8:(ao==o)=true:=by simp[h2]
      have u:=qh<|P.o.trans (ifp ⟨h1,rfl⟩);obtain⟨z,hz⟩:=exq<|addR D.kind s1.1 L Y aw;have a6:=λW (h:Fr (λ_=>False) w4 W)=>FH (k:=D.kind) (t:=L) (a:=Y) (b:=aw) W (h.row l.o.rl (λe=>e)) j4 j0 (a9 L) e8 e9;rw[<-hz]at a6 u;have b8:=qh a6;clear a6 hz;have T:∀W,Fr (λ_=>False) w4 W->(λg:World=>g.cell? (Ad X 0)=some (.int .i64 D.kind)/\g.cell? (Ad xb 3)=some (.int .i64 (L:Int))/\g.cell? (Ad vb q)=some (.string Y)/\g.cell? (Ad xb 2)=some (.string aw)) W:=λW hf =>
       ⟨hf.cell (cellOf l.o.bx 0 rfl) (λe=>e),hf.cell (cellOf b1.o 3 rfl) (λe=>e),hf.cell (by rw[J.o];exact l.o.rv.cell d4) (λe=>e),hf.cell (cellOf b1.o 2 rfl) (λe=>e)⟩
      have E:=qh T;clear T e9 e8 a9;obtain⟨Z,a8⟩:=exq<|w4.drew;have d2:Fr (λ_=>False) w4 Z:=by rw[a8];exact Fr.of_below<|(Below.refl w4.heap.size w4).drew
      have F:=qh d2;clear d2;have Q:∀G,Fr (λq=>q=lb) Z G->G.rowIs lb 9 D.n (λj=>.string (z.1 j))->StI w G X vb lb D (.slice (some (Ad b f2)) D.n cp) v z.1:=λG h r=>(l.o.new F.o).upd h r;have c9:=qh Q;clear Q;have d1:∀G,Fr (λq=>q=lb) Z G->(λg:World=>g.cell? (Ad X 0)=some (.int .i64 D.kind)/\g.cell? (Ad xb 3)=some (.int .i64 (L:Int))/\g.cell? (Ad vb q)=some (.string Y)/\g.cell? (Ad xb 2)=some (.string aw)) G:=λG h=>by
       obtain⟨a1,a2,a3,a4⟩:=E.o Z F.o;have e3:xb≠lb:=λe=>by
        obtain⟨cc,hh,_⟩:=l.o.rl;have:=b1.o;rw[e,hh]at this;simp at this
       exact⟨h.cell a1 l.o.ml,h.cell a2 e3,h.cell a3 l.o.vl,h.cell a4 e3⟩
      have b9:=qh d1;clear d1;clear P;subst h1 h2
      go_wp2_with fail
      rw[<-U,<-b7];have c:=E.o Z F.o;refine Au (λg:World=>g.cell? (Ad X 0)=some (.int .i64 D.kind)/\g.cell? (Ad xb 3)=some (.int .i64 (L:Int))/\g.cell? (Ad vb q)=some (.string Y)/\g.cell? (Ad xb 2)=some (.string aw)) 12 (by kernel_rfl) ?_;rw[<-a8];clear U b7 a8 c1 c2 c3 c4 c5 m0 m3 x0 x1 e0 e1;refine Aa.tm 0 c ?_;refine Aa.tm 1 c ?_;refine Aa.tm 2 c ?_;refine Aa.tm 3 c ?_;refine Aa.tm 4 c ?_;refine Aa.tm 5 c ?_;refine Aa.tm 6 c ?_;refine Aa.tm 7 c ?_;refine Aa.tm 8 c ?_;refine Aa.tm 9 c ?_;refine Aa.tm 10 c ?_
      try simp only[Act.put,tryL]
      refine Aa.on 11 λK R=>?_;go_simp;refine(b8.o Z F.o).mono ?_;rintro rr G⟨rfl,d5,a7⟩;have c8:=qh<|c9.o G a7 d5;have d0:=b9.o G a7;clear d5 a7 c b8 c9 b9 E F;refine R.out _ _ (.inr d0) ?_;clear R K
      try simp only[Act.put,tryL]
      refine Aa.on 12 λK R=>?_;go_simp;refine R.out _ _ (.inl rfl) (Aa.dn ?_);clear R K d0;by_cases B:z.2=0
      ·have g8:(z.2:Int)=0:=by omega
       have a5:=qh B;clear B;go_wp2;go_roundw
       case rel=>exact⟨d+1,by omega,by go_num,by rw[u.o];exact a5.o,by rw[u.o];exact c8.o⟩
       simp[intOf];omega
      have g8:¬((z.2:Int)=0):=by omega
      have l5:((z.2:Int)==0)=false:=by simp;omega
      have l6:decide ((z.2:Int)=0)=false:=by simp;omega
      have S:Ak D.inZ I 0 v D.n (zerR D.kind,0)=z:=by
       have e1:AM D.inZ I 0 v q (D.na q) s0=z:=by
        have h1:=GQ (D:=D.inZ) (i:=I) (o:=0) (v:=v) (q:=q) (s:=s0) (m:=d+1) (by rw[u.o];exact B) (D.na q-(d+1));rw[show d+1+(D.na q-(d+1))=D.na q by omega,u.o]at h1;exact h1
       have e2:Ak D.inZ I 0 v (q+1) (zerR D.kind,0)=z:=b0.o.trans e1;have h2:=GB (D:=D.inZ) (i:=I) (o:=0) (v:=v) (s:=(zerR D.kind,0)) (m:=q+1) (by rw[e2];exact B) (D.n-(q+1));rw[show q+1+(D.n-(q+1))=D.n by omega,e2]at h2;exact h2
      have N:=qh S;clear S;have a5:=qh B;clear B;go_wp2;go_ret2;exact⟨c8.o.be,.inr ⟨by rw[N.o];exact a5.o,by rw[N.o];rfl⟩⟩
     have h8:(I==i)=true:=by simp[h1]
     have j8:(ao==o)=false:=by simp[h2]
     have m5:decide (ao=o)=false:=by simp[h2]
     have u:=qh<|P.o.trans (ifp ⟨h1,rfl⟩);obtain⟨z,hz⟩:=exq<|addR D.kind s1.1 L Y aw;have a6:=λW (h:Fr (λ_=>False) w4 W)=>FH (k:=D.kind) (t:=L) (a:=Y) (b:=aw) W (h.row l.o.rl (λe=>e)) j4 j0 (a9 L) e8 e9;rw[<-hz]at a6 u;have b8:=qh a6;clear a6 hz;have T:∀W,Fr (λ_=>False) w4 W->(λg:World=>g.cell? (Ad X 0)=some (.int .i64 D.kind)/\g.cell? (Ad xb 3)=some (.int .i64 (L:Int))/\g.cell? (Ad vb q)=some (.string Y)/\g.cell? (Ad xb 2)=some (.string aw)) W:=λW hf =>
      ⟨hf.cell (cellOf l.o.bx 0 rfl) (λe=>e),hf.cell (cellOf b1.o 3 rfl) (λe=>e),hf.cell (by rw[J.o];exact l.o.rv.cell d4) (λe=>e),hf.cell (cellOf b1.o 2 rfl) (λe=>e)⟩
     have E:=qh T;clear T e9 e8 a9;obtain⟨Z,a8⟩:=exq<|w4.drew;have d2:Fr (λ_=>False) w4 Z:=by rw[a8];exact Fr.of_below<|(Below.refl w4.heap.size w4).drew
     have F:=qh d2;clear d2;have Q:∀G,Fr (λq=>q=lb) Z G->G.rowIs lb 9 D.n (λj=>.string (z.1 j))->StI w G X vb lb D (.slice (some (Ad b f2)) D.n cp) v z.1:=λG h r=>(l.o.new F.o).upd h r;have c9:=qh Q;clear Q;have d1:∀G,Fr (λq=>q=lb) Z G->(λg:World=>g.cell? (Ad X 0)=some (.int .i64 D.kind)/\g.cell? (Ad xb 3)=some (.int .i64 (L:Int))/\g.cell? (Ad vb q)=some (.string Y)/\g.cell? (Ad xb 2)=some (.string aw)) G:=λG h=>by
      obtain⟨a1,a2,a3,a4⟩:=E.o Z F.o;have e3:xb≠lb:=λe=>by
       obtain⟨cc,hh,_⟩:=l.o.rl;have:=b1.o;rw[e,hh]at this;simp at this
      exact⟨h.cell a1 l.o.ml,h.cell a2 e3,h.cell a3 l.o.vl,h.cell a4 e3⟩
     have b9:=qh d1;clear d1;clear P;subst h1
     go_wp2_with fail
     rw[<-U,<-b7];have c:=E.o Z F.o;refine Au (λg:World=>g.cell? (Ad X 0)=some (.int .i64 D.kind)/\g.cell? (Ad xb 3)=some (.int .i64 (L:Int))/\g.cell? (Ad vb q)=some (.string Y)/\g.cell? (Ad xb 2)=some (.string aw)) 12 (by kernel_rfl) ?_;rw[<-a8];clear U b7 a8 c1 c2 c3 c4 c5 m0 m3 x0 x1 e0 e1;refine Aa.tm 0 c ?_;refine Aa.tm 1 c ?_;refine Aa.tm 2 c ?_;refine Aa.tm 3 c ?_;refine Aa.tm 4 c ?_;refine Aa.tm 5 c ?_;refine Aa.tm 6 c ?_;refine Aa.tm 7 c ?_;refine Aa.tm 8 c ?_;refine Aa.tm 9 c ?_;refine Aa.tm 10 c ?_
     try simp only[Act.put,tryL]
     refine Aa.on 11 λK R=>?_;go_simp;refine(b8.o Z F.o).mono ?_;rintro rr G⟨rfl,d5,a7⟩;have c8:=qh<|c9.o G a7 d5;have d0:=b9.o G a7;clear d5 a7 c b8 c9 b9 E F;refine R.out _ _ (.inr d0) ?_;clear R K
     try simp only[Act.put,tryL]
     refine Aa.on 12 λK R=>?_;go_simp;refine R.out _ _ (.inl rfl) (Aa.dn ?_);clear R K d0;by_cases B:z.2=0
     ·have g8:(z.2:Int)=0:=by omega
      have a5:=qh B;clear B;go_wp2;go_roundw
      case rel=>exact⟨d+1,by omega,by go_num,by rw[u.o];exact a5.o,by rw[u.o];exact c8.o⟩
      simp[intOf];omega
     have g8:¬((z.2:Int)=0):=by omega
     have l5:((z.2:Int)==0)=false:=by simp;omega
     have l6:decide ((z.2:Int)=0)=false:=by simp;omega
     have S:Ak D.inZ I 0 v D.n (zerR D.kind,0)=z:=by
      have e1:AM D.inZ I 0 v q (D.na q) s0=z:=by
       have h1:=GQ (D:=D.inZ) (i:=I) (o:=0) (v:=v) (q:=q) (s:=s0) (m:=d+1) (by rw[u.o];exact B) (D.na q-(d+1));rw[show d+1+(D.na q-(d+1))=D.na q by omega,u.o]at h1;exact h1
      have e2:Ak D.inZ I 0 v (q+1) (zerR D.kind,0)=z:=b0.o.trans e1;have h2:=GB (D:=D.inZ) (i:=I) (o:=0) (v:=v) (s:=(zerR D.kind,0)) (m:=q+1) (by rw[e2];exact B) (D.n-(q+1));rw[show q+1+(D.n-(q+1))=D.n by omega,e2]at h2;exact h2
     have N:=qh S;clear S;have a5:=qh B;clear B;go_wp2;go_ret2;exact⟨c8.o.be,.inr ⟨by rw[N.o];exact a5.o,by rw[N.o];rfl⟩⟩
    have h8:(I==i)=false:=by simp[h1]
    have m4:decide (I=i)=false:=by simp[h1]
    have u:=qh<|P.o.trans (ifn (λe=>h1 e.1));clear P
    go_wp2_with fail
    rw[<-U];go_roundw
    case rel=>exact⟨d+1,by omega,by go_num,by rw[u.o];exact b5.o,by rw[u.o];exact l.o⟩
    simp[intOf];omega
   have i5:d=D.na q:=by omega
   have k9:¬((d:Int)<(D.na q:Int)):=by omega
   have he:=b5.o;have hi:=H.o;have j9:Ak D.inZ i 0 v (q+1) (zerR D.kind,0)=AM D.inZ i 0 v q (D.na q) s0:=b0.o;rw[i5,<-j9]at he hi;have f5:=qh he;have c7:=qh hi;clear he hi i5;go_wp2;go_roundw
   case rel=>exact⟨q+1,by omega,by go_num,f5.o,c7.o⟩
   simp[intOf];omega
  have d9:v q=Af D.kind:=by rw[<-J.o,<-d3.o];exact toList_eq hO
  have d7:Ak D.inZ i 0 v (q+1) (zerR D.kind,0)=s0:=h6.o.trans<|ifp d9;have b0:=qh d7;clear d9 d7;go_wp2;go_roundw
  case rel=>exact⟨q+1,by omega,by go_num,by rw[b0.o];exact b4.o,by rw[b0.o];exact f9.o⟩
  simp[intOf];omega
 have j2:q=D.n:=by omega
 have k9:¬((q:Int)<(D.n:Int)):=by omega
 have he:=b4.o;have hi:=H.o;rw[j2]at he hi;have f5:=qh he;have c7:=qh hi;clear he hi j2;go_wp2;go_ret2;exact⟨c7.o.be,.inl ⟨f5.o,lb,rfl,c7.o.ll,c7.o.rl⟩⟩
end
end Go.Proofs.YteappjogmnogcaaGreatDoor
