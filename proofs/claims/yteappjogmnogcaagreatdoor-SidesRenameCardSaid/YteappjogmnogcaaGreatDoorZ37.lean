/- Parts. -/
import Derived.Test.YteappjogmnogcaaGreatDoorZ29
import Derived.Test.YteappjogmnogcaaGreatDoorZ30
namespace Go.Proofs.YteappjogmnogcaaGreatDoor
set_option maxRecDepth 100000
set_option linter.all false
set_option maxHeartbeats 16000000
open Go Tryz
section
open Go.RowKit Go.Deep
def Vv:(prog.info? 75).map (λi=>(i.zero,i.size,i.bytes))=some (some (.slice none 0 0),1,24):=by kernel_rfl
def Wg8G(D:MD)(na:Nat)(x:Nat->Int)(nb:Nat)(y:Nat->Int)(w:World)(r:Ending)(w':World):Prop :=
 Below w.heap.size w w'/\((VM D/\isWord na x=true/\isWord nb y=true/\∃st e z,Sil8 D silB st e/\z=(if e≠0 then (⟨#[]⟩,e) else CU D st na x nb y)/\r=.returned (.tuple #[.string z.1,.int .i64 (z.2:Int)]))\/(¬(VM D/\isWord na x=true/\isWord nb y=true)/\r=.returned (.tuple #[.string ⟨#[]⟩,.int .i64 1])))
def LE{n:Nat}{x:Nat->Int}(h:isWord n x=true):n<=200:=by
 unfold isWord at h;rw[Bool.and_eq_true]at h;exact of_decide_eq_true h.1
set_option maxRecDepth 1000000 in
theorem z0b{D:MD}{sv xv yv:Value}{na nb:Nat}{x y:Nat->Int}(w:World)(hD:StS none w sv D)(hs:MSz D)(hx:Si none w xv na x)(hy:Si none w yv nb y):
  Calls prog 19 #[.agg #[.int .i64 D.kind,.int .i64 D.start,.string D.lead,sv],xv,yv] w (Wg8G D na x nb y w):=by
 obtain⟨a,cp,_,_,_,_,_,_,G6,_⟩:=hD.open;subst G6;have G2:=NP hx;have G3:=NP hy;obtain⟨ax,cx,bx,ox,rfl,k9,_,_,j2,v5⟩:=hx.open;obtain⟨ay,cy,i4,oy,rfl,l4,_,_,j4,v9⟩:=hy.open;obtain⟨w1,g5⟩:=exq<|w.alloc (.cells #[.int .i64 D.kind,.int .i64 D.start,.string D.lead,.slice a D.n cp] 24);obtain⟨A,i6⟩:=exq<|w.heap.size;have r2:Fr (λ_=>False) w w1:=by rw[g5];exact Fr.alloc _ _
 have E:BxM w1 A D (.slice a D.n cp):=by rw[g5,i6];exact BxM.new w D _
 have h7:=qh<|show Below w.heap.size w w1 from r2.below nlr (λ_ e=>e.elim);have u:=qh E;have J2:=qh (show A<w.heap.size+1 by omega);have b9:∀W,Below w.heap.size w W->StS none W (.slice a D.n cp) D:=λW h=>hD.kept (Ab h none);have t9:=λW (h:Below w.heap.size w W)=>CR W (⟨_,rfl,b9 W h⟩:Ma none W (.agg #[.int .i64 D.kind,.int .i64 D.start,.string D.lead,.slice a D.n cp]) D) hs;have v2:=λW (h:Below w.heap.size w W)=>It W (hx.kept (Ab h none)) G2;have v3:=λW (h:Below w.heap.size w W)=>It W (hy.kept (Ab h none)) G3;have t8:=λW (h:Below w.heap.size w W) (hV:VM D)=>Qh (lo:=false) W hV (b9 W h) (λq k=>by have:=hs.aw q k;unfold smS;unfold maxLen at this;omega);have n3:=λW (hV:VM D)=>FG (D:=D) (a:=a) (cap:=cp) W hV.n2;have f1:=qh b9;clear b9;have o9:=qh t9;clear t9;have p6:=qh v2;clear v2;have p7:=qh v3;clear v3;have o6:=qh t8;clear t8;replace n3:=qh n3;replace hs:=qh hs;replace k9:=qh k9;have e4:=qh j2;clear j2;have i2:=qh v5;clear v5;replace l4:=qh l4;have e5:=qh j4;clear j4;have i3:=qh v9;clear v9;have m0:=cellOf E 0 rfl;have m1:=cellOf E 1 rfl;have m2:=cellOf E 2 rfl;have m3:=cellOf E 3 rfl;have l0:=m0;have l1:=m1;have l2:=m2;have l3:=m3;rw[g5,i6]at l0 l1 l2 l3;clear hD hx hy r2 E
 go_enter func19,ntmps19
 go_wp2_with fail
 rw[<-g5,<-i6];clear g5 i6 l0 l1 l2 l3 m0 m1 m2 m3;refine(o9.o w1 h7.o).mono ?_;rintro rr w2⟨f4,s8⟩;obtain⟨bv,rfl,l5⟩:∃bv,rr=.returned (.bool bv)/\(VM D↔bv=true):=by
  rcases s8 with⟨h,rfl⟩|⟨h,rfl⟩
  ·exact⟨true,rfl,by simp[h]⟩
  exact⟨false,rfl,by simp[h]⟩
 have S:=qh<|h7.o.trans (f4.mono h7.o.size);have a2:=qh<|u.o.kept (Fr.of_below (C:=λ_=>False) f4) (λe=>e);clear f4 s8 h7 u o9;cases bv
 ·have e9:=qh (show ¬(VM D/\isWord na x=true/\isWord nb y=true) from λh=>by have:=l5.1 h.1;cases this);go_wp2;go_ret2;exact⟨S.o,.inr ⟨e9.o,rfl⟩⟩
 have HV:=qh<|l5.2 rfl;clear l5
 go_wp2_with fail
 refine(p6.o w2 S.o).mono ?_;rintro rr w3⟨rfl,rfl⟩;clear p6;cases b5:isWord na x
 ·have e9:=qh (show ¬(VM D/\isWord na x=true/\isWord nb y=true) from λh=>by rw[b5]at h;cases h.2.1);go_wp2;go_ret2;exact⟨S.o,.inr ⟨e9.o,rfl⟩⟩
 have I5:=LE b5;replace b5:=qh b5
 go_wp2_with fail
 refine(p7.o w3 S.o).mono ?_;rintro rr w4⟨rfl,rfl⟩;clear p7;cases b6:isWord nb y
 ·have e9:=qh (show ¬(VM D/\isWord na x=true/\isWord nb y=true) from λh=>by rw[b6]at h;cases h.2.2);go_wp2;go_ret2;exact⟨S.o,.inr ⟨e9.o,rfl⟩⟩
 have I6:=LE b6;replace b6:=qh b6;have G1:D.n<=3000:=HV.o.n2;have m0:=cellOf a2.o 0 rfl;have m1:=cellOf a2.o 1 rfl;have m2:=cellOf a2.o 2 rfl;have m3:=cellOf a2.o 3 rfl
 go_wp2_with fail
 refine(o6.o w4 S.o HV.o).mono ?_;rintro rr w5⟨Z,J7,sO,e0,rfl,e1,g0⟩;rw[YI]at g0;have N:=qh<|S.o.trans (Z.mono S.o.size);have d6:=qh<|a2.o.kept (Fr.of_below (C:=λ_=>False) Z) (λe=>e);have h9:=qh g0;clear g0;replace e1:=qh e1;clear Z S a2 o6 m0 m1 m2 m3;by_cases l6:e0=0
 rotate_left
 ·have I0:¬((e0:Int)=0):=by omega
  have H8:((e0:Int)==0)=false:=by simp;omega
  have H9:decide ((e0:Int)=0)=false:=by simp;omega
  have F0:=qh l6;clear l6;go_wp2;go_ret2;exact⟨N.o,.inl ⟨HV.o,b5.o,b6.o,sO,e0,(⟨#[]⟩,e0),h9.o,(ifp F0.o).symm,rfl⟩⟩
 subst l6;obtain⟨J,m8⟩:=exq<|w5;rw[<-m8];rw[<-m8]at N d6 e1;clear m8 w5;have j8:∀W,Below J.heap.size J W->StS none W (.slice a D.n cp) D:=λW h=>f1.o W (N.o.trans (h.mono N.o.size));have j9:0<na->bx<J.heap.size/\some bx≠none:=λh=>⟨Nat.lt_of_lt_of_le (e4.o h).1 N.o.size,(e4.o h).2⟩;have k1:0<nb->i4<J.heap.size/\some i4≠none:=λh=>⟨Nat.lt_of_lt_of_le (e5.o h).1 N.o.size,(e5.o h).2⟩;have k0:∀i,i<na->J.cell? (Ad bx (ox+i))=some (.int .i64 (x i)):=λi h=>(N.o.cell (p:=(Ad bx (ox+i))) (e4.o (by omega)).1).trans (i2.o i h);have k2:∀i,i<nb->J.cell? (Ad i4 (oy+i))=some (.int .i64 (y i)):=λi h=>(N.o.cell (p:=(Ad i4 (oy+i))) (e5.o (by omega)).1).trans (i3.o i h);clear f1 e4 e5 i2 i3;have f1:=qh j8;clear j8;have e4:=qh j9;clear j9;have e5:=qh k1;clear k1;have i2:=qh k0;clear k0;have i3:=qh k2;clear k2;have b0:=qh<|Below.refl J.heap.size J;obtain⟨n1,s4⟩:=exq<|na+1;obtain⟨n2,s5⟩:=exq<|nb+1;have J0:IntKind.i64.wrap ((na:Int)+1)=(n1:Int):=by rw[IntKind.wrap_i64];omega
 have J1:IntKind.i64.wrap ((nb:Int)+1)=(n2:Int):=by rw[IntKind.wrap_i64];omega
 have r9:=run_make_row' (P:=prog) 78 75 (.slice none 0 0) 24 underlying78 Vv rfl .i64 .i64 n1 (by omega) (by omega);have s3:=run_make_row' (P:=prog) 75 79 (.slice none 0 0) 24 underlying75 Ff rfl .i64 .i64 n2 (by omega) (by omega);have a5:=qh s4;have a6:=qh s5;have F8:n1<=201:=by omega
 have f4:n2<=201:=by omega
 obtain⟨w6,a9⟩:=exq<|J.alloc (.cells (madeCells #[.slice none 0 0] n1) 75);obtain⟨g,hg⟩:=exq<|J.heap.size;have b2:Fr (λ_=>False) J w6:=by rw[a9];exact Fr.alloc _ _
 have G:=qh (show TQ w6 J.heap.size g n1 n2 D.n 0 n2 (λ_=>0) (λ_ _=>0) (Af D.kind) by rw[a9,hg];exact TQ.made J b0.o.size n1 n2 D.n _);have d7:=qh<|d6.o.kept b2 (λe=>e);have o2:=qh<|b0.o.trans (b2.below b0.o.size (λ_ e=>e.elim));have F1:=qh (show A≠g by have:=lbk d6.o;omega);clear b2 b0 d6 s4 s5
 go_wp2_with fail
 rw[<-a9,<-hg];clear a9 hg r9
 go_loopw [11] (λn5 wr=>∃k:Nat,k<=n1/\n5=.int .i64 (k:Int)/\(∃r s,TQ wr J.heap.size g n1 n2 D.n k n2 r s (Af D.kind))/\BxM wr A D (.slice a D.n cp)/\Below J.heap.size J wr) (λn5 _=>n1-(intOf n5).toNat)
 case atStart=>exact⟨0,Nat.zero_le _,rfl,⟨_,_,G.o⟩,d7.o,o2.o⟩
 obtain⟨k,hk,rfl,⟨r,s,g2⟩,E,T⟩:=hrel;clear G d7 o2;have G:=qh g2;clear g2;have u:=qh E;clear E;have m:=qh T;clear T;by_cases r8:k<n1
 ·have J4:(k:Int)<=(na:Int):=by have:=a5.o;omega
  have I4:(k:Int)<(n1:Int):=by omega
  have I3:(0:Int)<=(k:Int):=by omega
  have c0:=G.o.top.cell r8;rw[ifn (Nat.lt_irrefl k)]at c0;have f0:=G.o.top.frozen k;have G0:=G.o.top.lt;obtain⟨w7,i9⟩:∃w7,w7=(wr.setCell ⟨g,k,none⟩ (.slice (some ⟨wr.heap.size,0,none⟩) n2 n2)).alloc (.cells (madeCells #[.slice none 0 0] n2) 79):=⟨_,rfl⟩;have g3:=G.o.addRow m.o.size;rw[<-i9]at g3;have o7:=qh g3;clear g3;have l7:Fr (λc=>c=g) wr w7:=by rw[i9];exact((Fr.refl (λc=>c=g) wr).set (p:=(Ad g k)) (.inl rfl) _).trans (Fr.alloc _ _)
  have j0:=qh<|u.o.kept l7 F1.o;have o3:=qh (m.o.trans (l7.below m.o.size (λc e=>by rw[e];exact G.o.base)));clear l7
  go_wp2_with fail
  rw[<-i9];clear i9 c0 f0 G0
  go_loopw [12] (λn6 wr=>∃j:Nat,j<=n2/\n6=.int .i64 (j:Int)/\(∃r s,TQ wr J.heap.size g n1 n2 D.n (k+1) j r s (Af D.kind))/\BxM wr A D (.slice a D.n cp)/\Below J.heap.size J wr) (λn6 _=>n2-(intOf n6).toNat)
  case atStart=>exact⟨0,Nat.zero_le _,rfl,⟨_,_,o7.o⟩,j0.o,o3.o⟩
  obtain⟨j,hj,rfl,⟨r,s,g2⟩,E,T⟩:=hrel;clear o7 j0 o3 G u m;have G:=qh g2;clear g2;have u:=qh E;clear E;have m:=qh T;clear T;by_cases d3:j<n2
  ·have F9:(j:Int)<=(nb:Int):=by have:=a6.o;omega
   have r5:(j:Int)<(n2:Int):=by omega
   have r4:(0:Int)<=(j:Int):=by omega
   obtain⟨rk,e6⟩:=exq<|r k;have U:∀W,Fr (λ_=>False) wr W->(λo:World=>o.cell? (Ad g k)=some (.slice (some ⟨rk,0,none⟩) n2 n2)/\o.cell? (Ad A 0)=some (.int .i64 D.kind)/\o.cell? (Ad A 1)=some (.int .i64 D.start)/\o.cell? (Ad A 2)=some (.string D.lead)/\o.cell? (Ad A 3)=some (.slice a D.n cp)) W:=λW hf=>by
    have R:=(G.o.new hf).top.cell r8;rw[ifp (Nat.lt_succ_self k)]at R;have H:=u.o.kept hf (λe=>e);exact⟨by rw[e6];exact R,cellOf H 0 rfl,cellOf H 1 rfl,cellOf H 2 rfl,cellOf H 3 rfl⟩
   have a3:=qh U;clear U;replace e6:=qh e6;obtain⟨Q,F⟩:=exq<|wr.drew;have O:=qh (show Fr (λ_=>False) wr Q by rw[F];exact Fr.of_below ((Below.refl wr.heap.size wr).drew))
   go_wp2_with fail
   have l:=a3.o Q O.o;refine Au (λo:World=>o.cell? (Ad g k)=some (.slice (some ⟨rk,0,none⟩) n2 n2)/\o.cell? (Ad A 0)=some (.int .i64 D.kind)/\o.cell? (Ad A 1)=some (.int .i64 D.start)/\o.cell? (Ad A 2)=some (.string D.lead)/\o.cell? (Ad A 3)=some (.slice a D.n cp)) 8 (by kernel_rfl) ?_;rw[<-F];clear F;refine Aa.tm 0 l ?_;refine Aa.tm 1 l ?_;refine Aa.tm 2 l ?_;refine Aa.tm 3 l ?_;refine Aa.tm 4 l ?_;refine Aa.tm 5 l ?_
   try simp only[Act.put,tryL]
   refine Aa.on 6 λK I=>?_;go_simp;refine(n3.o Q HV.o).mono ?_;rintro rr w8⟨q8,vg,rfl,G7,v0⟩;have d1:=qh<|O.o.trans (Fr.of_below q8);have k7:=a3.o w8 d1.o;have F4:=qh v0;have F3:=qh (show wr.heap.size<=vg by have:=O.o.size;omega);clear q8 G7 v0 l;refine I.out _ _ (.inr k7) ?_;clear I K
   try simp only[Act.put,tryL]
   refine Aa.tm 7 k7 ?_
   try simp only[Act.put,tryL]
   have b7:=((G.o.new d1.o).mid k (Nat.lt_succ_self k)).1;rw[<-e6.o]at b7;have c0:=b7.cell d3;rw[ifn (by unfold dn;omega)]at c0;have f0:=b7.frozen j;refine Aa.on 8 λK I=>?_;go_simp;refine I.out _ _ (.inl rfl) (Aa.dn ?_);clear I K k7 c0 f0;have i8:=G.o.addVec d3 d1.o F4.o m.o.size F3.o;rw[<-e6.o]at i8;have j7:A≠rk:=λe=>by
    obtain⟨c,R,_⟩:=b7;have H:=u.o.kept d1.o (λe=>e);unfold BxM at H;rw[e,R]at H;simp at H
   have f9:J.heap.size<=rk:=by rw[e6.o];exact(G.o.mid k (Nat.lt_succ_self k)).2
   obtain⟨w9,c9⟩:=exq<|w8.setCell ⟨rk,j,none⟩ (.slice (some ⟨vg,0,none⟩) D.n D.n);have b3:Fr (λc=>c=rk) w8 w9:=by rw[c9];exact(Fr.refl (λc=>c=rk) w8).set (p:=(Ad rk j)) (.inl rfl) _
   rw[<-c9]at i8;have F2:=qh i8;have d8:=qh<|(u.o.kept d1.o (λe=>e)).kept b3 j7;have h8:=qh ((m.o.trans (d1.o.below m.o.size (λ_ e=>e.elim))).trans (b3.below (Nat.le_trans m.o.size d1.o.size) (λc e=>by rw[e];exact f9)));clear i8 b7 j7 f9 b3
   go_wp2_with fail
   rw[<-c9];go_roundw
   case rel=>exact⟨j+1,by omega,by go_num,⟨_,_,F2.o⟩,d8.o,h8.o⟩
   simp[intOf];omega
  have f8:j=n2:=by omega
  have l8:¬((j:Int)<=(nb:Int)):=by have:=a6.o;omega
  have ht:=G.o;rw[f8]at ht;have d2:=qh ht;clear ht f8;go_wp2;go_roundw
  case rel=>exact⟨k+1,by omega,by go_num,⟨_,_,d2.o⟩,u.o,m.o⟩
  simp[intOf];omega
 have r7:k=n1:=by omega
 have l8:¬((k:Int)<=(na:Int)):=by have:=a5.o;omega
 have ht:=G.o;rw[r7]at ht;have d2:=qh ht;clear ht r7 G s3;obtain⟨st,b9⟩:∃st:Nat,D.start=(st:Int):=⟨D.start.toNat,by have:=HV.o.s0;omega⟩;have g0:st<D.n:=by have:=HV.o.s1;omega
 have I9:(st:Int)<(D.n:Int):=by omega
 have G5:(0:Int)<=(st:Int):=by omega
 have i5:0<n1:=by have:=a5.o;omega
 have k6:0<n2:=by have:=a6.o;omega
 obtain⟨r0,m4⟩:=exq<|r 0;obtain⟨s0,i7⟩:=exq<|s 0 0;have U:(λo:World=>o.cell? (Ad g 0)=some (.slice (some ⟨r0,0,none⟩) n2 n2)/\o.cell? (Ad r0 0)=some (.slice (some ⟨s0,0,none⟩) D.n D.n)/\o.cell? (Ad A 1)=some (.int .i64 (st:Int))/\o.cell? (Ad A 2)=some (.string D.lead)) wr:=by
  have R:=d2.o.whole.top.cell i5;have H:=(d2.o.whole.mid 0 i5).1.cell k6;refine⟨by rw[m4];exact R,by rw[m4,i7];exact H,?_,cellOf u.o 2 rfl⟩;rw[<-b9];exact cellOf u.o 1 rfl
 have c7:=d2.o.whole.vec 0 0 i5 k6;rw[<-i7]at c7;have c0:=c7.cell g0;have f0:=c7.frozen st;obtain⟨a1,m7⟩:=d2.o.lead b9 i5 k6;rw[<-i7]at a1 m7;have b8:A≠s0:=PG u.o c7;obtain⟨w9,c9⟩:=exq<|wr.setCell ⟨s0,st,none⟩ (.string D.lead);have b3:Fr (λc=>c=s0) wr w9:=by rw[c9];exact(Fr.refl (λc=>c=s0) wr).set (p:=(Ad s0 st)) (.inl rfl) _
 rw[<-c9]at a1;obtain⟨Q,F⟩:=exq<|wr.drew;obtain⟨H6,g6⟩:∃w,w=Q.setCell ⟨s0,st,none⟩ (.string D.lead):=⟨_,rfl⟩;have d9:Fr (λ_=>False) w9 H6:=by rw[c9,g6,F];exact⟨rfl,rfl,rfl,nlr,λq _ _=>rfl⟩
 have L:=qh<|a1.new d9;have d8:=qh<|(u.o.kept b3 b8).kept d9 (λe=>e);have h8:=qh ((m.o.trans (b3.below m.o.size (λc e=>by rw[e];exact m7))).trans (d9.below (Nat.le_trans m.o.size b3.size) (λ_ e=>e.elim)));have l:(λo:World=>o.cell? (Ad g 0)=some (.slice (some ⟨r0,0,none⟩) n2 n2)/\o.cell? (Ad r0 0)=some (.slice (some ⟨s0,0,none⟩) D.n D.n)/\o.cell? (Ad A 1)=some (.int .i64 (st:Int))/\o.cell? (Ad A 2)=some (.string D.lead)) Q:=by rw[F];exact U
 have d0:Q.cell? (Ad s0 st)=some (.string (zerR D.kind st)):=by rw[F];exact c0
 have e0:Q.frozen? (Ad s0 st)=false:=by rw[F];exact f0
 have g8:(0:Int)<(n1:Int):=by omega
 have g9:(0:Int)<(n2:Int):=by omega
 clear U c7 c0 f0 a1 m7 b8 b3 d9 c9 m4 i7 b9 d2
 go_wp2_with fail
 refine Au (λo:World=>o.cell? (Ad g 0)=some (.slice (some ⟨r0,0,none⟩) n2 n2)/\o.cell? (Ad r0 0)=some (.slice (some ⟨s0,0,none⟩) D.n D.n)/\o.cell? (Ad A 1)=some (.int .i64 (st:Int))/\o.cell? (Ad A 2)=some (.string D.lead)) 10 (by kernel_rfl) ?_;rw[<-F];clear F;refine Aa.tm 0 l ?_;refine Aa.tm 1 l ?_;refine Aa.tm 2 l ?_;refine Aa.tm 3 l ?_;refine Aa.tm 4 l ?_;refine Aa.tm 5 l ?_;refine Aa.tm 6 l ?_;refine Aa.tm 7 l ?_;refine Aa.tm 8 l ?_;refine Aa.tm 9 l ?_
 try simp only[Act.put,tryL]
 refine Aa.on 10 λK I=>?_;go_simp;refine I.out _ _ (.inl rfl) (Aa.dn ?_);clear I K l d0 e0;rw[<-g6];clear g6;have p8:=qh (RP (D:=D) (by have:=hs.o.lead;unfold smS;unfold maxLen at this;omega))
 go_wp2_with fail
 go_loopw [13] (λn7 wr=>∃i:Nat,i<=n1/\n7=.int .i64 (i:Int)/\(∃r s X,Bg D sO na x nb y i (X0R D,0)=(X,0)/\smT X/\TW wr J.heap.size g n1 n2 D.n r s X)/\BxM wr A D (.slice a D.n cp)/\Below J.heap.size J wr) (λn7 _=>n1-(intOf n7).toNat)
 case atStart=>exact⟨0,Nat.zero_le _,rfl,⟨_,_,_,rfl,p8.o,L.o⟩,d8.o,h8.o⟩
 obtain⟨i,hi,rfl,⟨r,s,X,f3,b8,a1⟩,E,T⟩:=hrel;clear L d8 h8 p8;have L:=qh a1;clear a1;have b1:=qh f3;clear f3;have a7:=qh b8;clear b8;have u:=qh E;clear E;have m:=qh T;clear T;by_cases a8:i<n1
 ·have J3:(i:Int)<=(na:Int):=by have:=a5.o;omega
  have I2:(i:Int)<(n1:Int):=by omega
  have I1:(0:Int)<=(i:Int):=by omega
  have j5:i<=na:=by have:=a5.o;omega
  obtain⟨z1,g8⟩:=exq<|Bg D sO na x nb y i (X0R D,0);have p9:=qh g8;have o4:=qh (show Bg D sO na x nb y (i+1) (X0R D,0)=Bh D sO na x nb y i (nb+1) z1 by rw[g8];rfl);rw[<-g8]at b1;clear g8
  go_wp2_with fail
  go_loopw [14] (λn9 wr=>∃j:Nat,j<=n2/\n9=.int .i64 (j:Int)/\(∃r s X,Bh D sO na x nb y i j z1=(X,0)/\smT X/\TW wr J.heap.size g n1 n2 D.n r s X)/\BxM wr A D (.slice a D.n cp)/\Below J.heap.size J wr) (λn9 _=>n2-(intOf n9).toNat)
  case atStart=>exact⟨0,Nat.zero_le _,rfl,⟨_,_,_,b1.o,a7.o,L.o⟩,u.o,m.o⟩
  obtain⟨j,hj,rfl,⟨r,s,X,f3,b8,a1⟩,E,T⟩:=hrel;clear L u m b1 a7;have L:=qh a1;clear a1;have b1:=qh f3;clear f3;have a7:=qh b8;clear b8;have u:=qh E;clear E;have m:=qh T;clear T;by_cases d3:j<n2
  ·have F9:(j:Int)<=(nb:Int):=by have:=a6.o;omega
   have r5:(j:Int)<(n2:Int):=by omega
   have r4:(0:Int)<=(j:Int):=by omega
   have j6:j<=nb:=by have:=a6.o;omega
   obtain⟨z2,g9⟩:=exq<|rsT D sO i j (Bh D sO na x nb y i j z1);have F6:=qh g9;have j1:=qh (show Bh D sO na x nb y i (j+1) z1=mvR D na x nb y i j 4 z2 by rw[g9];rfl);obtain⟨z,hz⟩:=exq<|rest8 D.kind D.n sO (X i j);have w0:z2=if z.2≠0 then (X,z.2) else (updT X i j z.1,0):=by
    rw[g9,b1.o,hz];unfold rsT;rw[ifn (by simp)]
   have x0:∀p,smS (z.1 p):=by rw[hz];exact KC<|a7.o i j
   have k5:=qh w0;clear w0;have q7:=qh x0;clear x0;clear g9;obtain⟨rq,e7⟩:=exq<|r i;obtain⟨vs,d4⟩:=exq<|s i j;have U:∀W,Fr (λ_=>False) wr W->(λo:World=>o.cell? (Ad g i)=some (.slice (some ⟨rq,0,none⟩) n2 n2)/\o.cell? (Ad rq j)=some (.slice (some ⟨vs,0,none⟩) D.n D.n)/\o.cell? (Ad A 0)=some (.int .i64 D.kind)/\o.cell? (Ad A 1)=some (.int .i64 D.start)/\o.cell? (Ad A 2)=some (.string D.lead)/\o.cell? (Ad A 3)=some (.slice a D.n cp)) W:=λW hf=>by
    have R:=L.o.new hf;have H:=u.o.kept hf (λe=>e);rw[e7,d4];exact⟨R.top.cell a8,(R.mid i a8).1.cell d3,cellOf H 0 rfl,cellOf H 1 rfl,cellOf H 2 rfl,cellOf H 3 rfl⟩
   have a3:=qh U;clear U;have e3:=qh e7;clear e7;have p0:=qh d4;clear d4;obtain⟨Q,F⟩:=exq<|wr.drew;have O:=qh (show Fr (λ_=>False) wr Q by rw[F];exact Fr.of_below ((Below.refl wr.heap.size wr).drew));have q9:Below J.heap.size J Q:=m.o.trans<|O.o.below m.o.size (λ_ e=>e.elim);have m5:=Py (a:=a) (cp:=cp) Q HV.o (by rw[p0.o];exact(L.o.new O.o).vec i j a8 d3) (a7.o i j) (e1.o.below q9) (vb:=vs);rw[<-hz]at m5;have o5:=qh m5;clear m5 q9 hz
   go_wp2_with fail
   have l:=a3.o Q O.o;refine Au (λo:World=>o.cell? (Ad g i)=some (.slice (some ⟨rq,0,none⟩) n2 n2)/\o.cell? (Ad rq j)=some (.slice (some ⟨vs,0,none⟩) D.n D.n)/\o.cell? (Ad A 0)=some (.int .i64 D.kind)/\o.cell? (Ad A 1)=some (.int .i64 D.start)/\o.cell? (Ad A 2)=some (.string D.lead)/\o.cell? (Ad A 3)=some (.slice a D.n cp)) 14 (by kernel_rfl) ?_;rw[<-F];clear F;refine Aa.tm 0 l ?_;refine Aa.tm 1 l ?_;refine Aa.tm 2 l ?_;refine Aa.tm 3 l ?_;refine Aa.tm 4 l ?_;refine Aa.tm 5 l ?_;refine Aa.tm 6 l ?_;refine Aa.tm 7 l ?_;refine Aa.tm 8 l ?_
   try simp only[Act.put,tryL]
   refine Aa.on 9 λK I=>?_;go_simp;refine o5.o.mono ?_;rintro rr w5⟨Z,G4⟩;have a4:=qh<|O.o.trans (Fr.of_below (C:=λ_=>False) Z);have B:=a3.o w5 a4.o;clear Z l o5
   rcases G4 with⟨e8,vg,rfl,_,c8⟩|⟨e8,rfl⟩
   rotate_left
   ·refine I.out _ _ (.inr B) ?_;clear I K
    try simp only[Act.put,tryL]
    refine Aa.tm 10 B ?_;refine Aa.tm 11 B ?_;refine Aa.tm 12 B ?_
    try simp only[Act.put,tryL]
    refine Aa.on 13 λK I=>?_;go_simp;refine I.out _ _ (.inr B) ?_;clear I K
    try simp only[Act.put,tryL]
    refine Aa.on 14 λK I=>?_;go_simp;refine I.out _ _ (.inl rfl) (Aa.dn ?_);clear I K;have h6:¬((z.2:Int)=0):=by omega
    have J5:((z.2:Int)==0)=false:=by simp;omega
    have J6:decide ((z.2:Int)=0)=false:=by simp;omega
    have hw:CU D sO na x nb y=(⟨#[]⟩,z.2):=by
     have R:z2=(X,z.2):=k5.o.trans<|ifp e8;have H:Bh D sO na x nb y i (j+1) z1=(X,z.2):=by
      rw[j1.o,R];exact Hy (k:=0) (s:=(X,z.2)) e8 4
     exact Rx p9.o H e8 j5 j6
    have HW:=qh hw;clear hw e8 B;have b0:=qh<|m.o.trans (a4.o.below m.o.size (λ_ e=>e.elim));go_wp2;go_ret2;exact⟨N.o.trans (b0.o.mono N.o.size),.inl ⟨HV.o,b5.o,b6.o,sO,0,_,h9.o,rfl,by rw[ifn (by simp),HW.o];rfl⟩⟩
   refine I.out _ _ (.inr B) ?_;clear I K
   try simp only[Act.put,tryL]
   refine Aa.tm 10 B ?_;refine Aa.tm 11 B ?_;refine Aa.tm 12 B ?_
   try simp only[Act.put,tryL]
   refine Aa.on 13 λK I=>?_;go_simp;refine I.out _ _ (.inr B) ?_;clear I K
   try simp only[Act.put,tryL]
   refine Aa.on 14 λK I=>?_;go_simp;refine I.out _ _ (.inl rfl) (Aa.dn ?_);clear I K;obtain⟨c1,c2,_,_,_,_⟩:=B;have e2:=L.o.new a4.o;have f2:w5.frozen? (Ad rq j)=false:=by rw[e3.o];exact(e2.mid i a8).1.frozen j
   have Y:=e2.put a8 d3 c8;rw[<-e3.o]at Y;obtain⟨w6,a9⟩:=exq<|w5.setCell ⟨rq,j,none⟩ (.slice (some ⟨vg,0,none⟩) D.n D.n);have b2:Fr (λc=>c=rq) w5 w6:=by rw[a9];exact(Fr.refl (λc=>c=rq) w5).set (p:=(Ad rq j)) (.inl rfl) _
   have f9:J.heap.size<=rq:=by rw[e3.o];exact(L.o.mid i a8).2
   have s9:A≠rq:=λe=>by
    obtain⟨c,R,_⟩:=(L.o.mid i a8).1;have H:=u.o;unfold BxM at H;rw[e,e3.o,R]at H;simp at H
   have t7:vg≠rq:=by rw[e3.o];exact Cp c8 (e2.mid i a8).1 (by decide)
   rw[<-a9]at Y;have h0:z2=(updT X i j z.1,0):=k5.o.trans<|ifn (by omega);have h6:(z.2:Int)=0:=by omega
   obtain⟨V,hV⟩:=exq<|z.1;have v8:updT X i j z.1 i j=V:=by rw[hV];unfold updT;rw[ifp ⟨rfl,rfl⟩]
   rw[<-hV]at c8;have HI:=qh (show (∃r s X',mvR D na x nb y i j 1 z2=(X',0)/\smT X'/\TW w6 J.heap.size g n1 n2 D.n r s X'/\X' i j=V)/\w6.rowIs vg 9 D.n (λp=>.string (V p))/\BxM w6 A D (.slice a D.n cp)/\Below J.heap.size J w6 from
    ⟨⟨_,_,_,h0,a7.o.upd q7.o,Y,v8⟩,b2.row c8 t7,(u.o.kept a4.o (λe=>e)).kept b2 s9,(m.o.trans (a4.o.below m.o.size (λ_ e=>e.elim))).trans (b2.below (Nat.le_trans m.o.size a4.o.size) (λc e=>by rw[e];exact f9))⟩)
   have H7:=qh (show z2.2=0 by rw[h0]);have f7:∀k e,k<=4->(mvR D na x nb y i j k z2).2=e->e≠0->CU D sO na x nb y=(⟨#[]⟩,e):=λk e hk R H=>by
    rw[<-R]at H ⊢;exact z0w p9.o F6.o rfl H j5 j6 hk
   replace f7:=qh f7;clear e2 Y c8 b2 f9 s9 t7 hV a3 O a4 h0 v8 e8 k5 q7
   go_wp2_with fail
   rw[<-a9];clear a9 c1 c2 f2 L b1 a7 u m e3 p0
   conv=>arg 2;whnf
   obtain⟨⟨r6,s6,X6,v4,g1,Y,g7⟩,g4,j3,f5⟩:=HI.o;have F5:=qh<|show z2=(X6,0) from v4;clear v4;replace g1:=qh g1;have o8:=qh Y;clear Y;replace g7:=qh g7;replace g4:=qh g4;have d7:=qh j3;clear j3;replace f5:=qh f5;clear HI;refine VC HV f1 hs G1 a5 a6 F8 f4 a8 d3 k9 e4 i2 l4 e5 i3 f7 F5 g7 g1 o8 g4 d7 f5 (qh ?xb) (qh ?xa) (qh ?xc)
   case xb=>exact λ_ _ d _ _ h=>by cases d<;>exact h
   case xa =>
    intro v6 v7 G8 G9 H0 H1 H3 H4 H5 x1 x2 x3 x4 x5 x6 x7 x8 x9 y0 y1 y2 y3 y4 y5 y6 y7 y8 y9 z3 z4 z5 z6 z7 z8 z9 A0 A1 A2 A3 A4 A5 A6 A7 A8 A9 B0 B1 B2 B3 B4 B5 B6 B7 B8 B9 C0 C1 C2 C3 C4 C5 C6 C7 C8 C9 D0 D1 D2 D3 D4 D5 D6 D7 D8 D9 E0 E1 E2 E3 E4 E5 E6 E7 E8 E9 w2 s2 X2 R H h3 h4 h5;rw[<-j1.o]at R;have k4:=qh R;clear R;have H2:=qh H;clear H;replace h3:=qh h3;replace h4:=qh h4;replace h5:=qh h5;go_wp2;go_roundw
    case rel=>exact⟨j+1,by omega,by go_num,⟨_,s2,X2,k4.o,H2.o,h3.o⟩,h4.o,h5.o⟩
    simp[intOf];omega
   case xc =>
    intro G8 G9 H0 H1 H3 H4 H5 x1 x2 x3 x4 x5 x6 x7 x8 x9 y0 y1 y2 y3 y4 y5 y6 y7 y8 y9 z3 z4 z5 z6 z7 z8 z9 A0 A1 A2 A3 A4 A5 A6 A7 A8 A9 B0 B1 B2 B3 B4 B5 B6 B7 B8 B9 C0 C1 C2 C3 C4 C5 C6 C7 C8 C9 D0 D1 D2 D3 D4 D5 D6 D7 D8 D9 E0 E1 E2 E3 E4 E5 E6 E7 E8 E9 w2 e R H;have S:=qh H;clear H;have HW:=qh R;clear R;go_wp2;go_ret2;exact⟨N.o.trans (S.o.mono N.o.size),.inl ⟨HV.o,b5.o,b6.o,sO,0,_,h9.o,rfl,by rw[ifn (by simp),HW.o];rfl⟩⟩
  have f8:j=n2:=by omega
  have l8:¬((j:Int)<=(nb:Int)):=by have:=a6.o;omega
  have d5:=b1.o;rw[f8,a6.o,<-o4.o]at d5;have k4:=qh d5;clear d5 f8;go_wp2;go_roundw
  case rel=>exact⟨i+1,by omega,by go_num,⟨r,s,X,k4.o,a7.o,L.o⟩,u.o,m.o⟩
  simp[intOf];omega
 have r3:i=n1:=by omega
 have l8:¬((i:Int)<=(na:Int)):=by have:=a5.o;omega
 have d5:=b1.o;rw[r3,a5.o]at d5;have m9:CU D sO na x nb y=endR D (X na nb):=by unfold CU;rw[d5,ifn (by simp)]
 replace m9:=qh m9;clear d5 r3;have l9:na<n1:=by have:=a5.o;omega
 have s7:nb<n2:=by have:=a6.o;omega
 have I7:(na:Int)<(n1:Int):=by omega
 have I8:(nb:Int)<(n2:Int):=by omega
 obtain⟨rq,e7⟩:=exq<|r na;obtain⟨vs,d4⟩:=exq<|s na nb;have U:∀W,Fr (λ_=>False) wr W->(λo:World=>o.cell? (Ad g na)=some (.slice (some ⟨rq,0,none⟩) n2 n2)/\o.cell? (Ad rq nb)=some (.slice (some ⟨vs,0,none⟩) D.n D.n)/\o.cell? (Ad A 0)=some (.int .i64 D.kind)/\o.cell? (Ad A 1)=some (.int .i64 D.start)/\o.cell? (Ad A 2)=some (.string D.lead)/\o.cell? (Ad A 3)=some (.slice a D.n cp)) W:=λW hf=>by
  have R:=L.o.new hf;have H:=u.o.kept hf (λe=>e);rw[e7,d4];exact⟨R.top.cell l9,(R.mid na l9).1.cell s7,cellOf H 0 rfl,cellOf H 1 rfl,cellOf H 2 rfl,cellOf H 3 rfl⟩
 have a3:=qh U;clear U;obtain⟨Q,F⟩:=exq<|wr.drew;have O:=qh (show Fr (λ_=>False) wr Q by rw[F];exact Fr.of_below ((Below.refl wr.heap.size wr).drew));have k3:=qh<|m.o.trans (O.o.below m.o.size (λ_ e=>e.elim));have b4:=Nt Q HV.o (f1.o Q k3.o) (by rw[d4];exact(L.o.new O.o).vec na nb l9 s7) (a7.o na nb) (λq=>by have:=hs.o.fin q;unfold smS;unfold maxLen at this;omega) (vb:=vs) (v:=X na nb);rw[<-m9.o]at b4;obtain⟨zz,h6⟩:=exq<|CU D sO na x nb y;rw[<-h6]at b4;have F7:=qh h6;clear h6;replace b4:=qh b4;clear e7 d4
 go_wp2_with fail
 have l:=a3.o Q O.o;refine Au (λo:World=>o.cell? (Ad g na)=some (.slice (some ⟨rq,0,none⟩) n2 n2)/\o.cell? (Ad rq nb)=some (.slice (some ⟨vs,0,none⟩) D.n D.n)/\o.cell? (Ad A 0)=some (.int .i64 D.kind)/\o.cell? (Ad A 1)=some (.int .i64 D.start)/\o.cell? (Ad A 2)=some (.string D.lead)/\o.cell? (Ad A 3)=some (.slice a D.n cp)) 14 (by kernel_rfl) ?_;rw[<-F];clear F;refine Aa.tm 0 l ?_;refine Aa.tm 1 l ?_;refine Aa.tm 2 l ?_;refine Aa.tm 3 l ?_;refine Aa.tm 4 l ?_;refine Aa.tm 5 l ?_;refine Aa.tm 6 l ?_;refine Aa.tm 7 l ?_;refine Aa.tm 8 l ?_;refine Aa.tm 9 l ?_
 try simp only[Act.put,tryL]
 refine Aa.on 10 λK I=>?_;go_simp;refine b4.o.mono ?_;rintro rr w5⟨rfl,Z⟩;have a4:=qh<|O.o.trans (Fr.of_below Z);have b0:=qh<|k3.o.trans (Z.mono k3.o.size);have B:=a3.o w5 a4.o;clear Z l;refine I.out _ _ (.inr B) ?_;clear I K
 try simp only[Act.put,tryL]
 refine Aa.tm 11 B ?_;refine Aa.tm 12 B ?_
 try simp only[Act.put,tryL]
 refine Aa.on 13 λK I=>?_;go_simp;refine I.out _ _ (.inr B) ?_;clear I K
 try simp only[Act.put,tryL]
 refine Aa.on 14 λK I=>?_;go_simp;refine I.out _ _ (.inl rfl) (Aa.dn ?_);clear I K B;go_wp2;go_ret2;exact⟨N.o.trans (b0.o.mono N.o.size),.inl ⟨HV.o,b5.o,b6.o,sO,0,zz,h9.o,by rw[ifn (by simp)];exact F7.o,rfl⟩⟩
end
end Go.Proofs.YteappjogmnogcaaGreatDoor
