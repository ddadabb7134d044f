/- Parts of a proof: BlH AloL RvA SdEr RnM RnW. -/
import Derived.Test.YteappjogmnogcaaGreatDoorW13
import Derived.Test.YteappjogmnogcaaGreatDoorW12
namespace Go.Proofs.YteappjogmnogcaaGreatDoor
set_option maxRecDepth 100000
set_option linter.unusedSimpArgs false
set_option linter.unusedVariables false
set_option linter.unusedSectionVars false
set_option maxHeartbeats 16000000
open Go Tryz
section
open Go.RowKit Go.Deep
theorem u1w:∀ args w,(callFunc 126 args).run prog w=.ok (.enter 126 args) w:=fun args w=>by kernel_rfl
theorem v7i (w:World) (s:Int):Calls prog 127 #[.int .i64 s] w (fun r w'=>r=.returned (.bool (!offI 500 s))/\w'=w):=by
 by_cases g:1<=s
 ·go_enter func127,ntmps127
  go_wp2;go_ret;exact⟨z0v (by
   unfold offI;rw[show decide (s<1)=false by simp;omega];by_cases c:s<=500
   ·simp[c]
   simp[c];omega),rfl⟩
 have d:decide (1<=s)=false:=by simp;omega
 go_enter func127,ntmps127
 go_wp2;go_ret;exact⟨z0v (by unfold offI;rw[show decide (s<1)=true by simp;omega];rfl),rfl⟩
theorem x7a (w:World) (s:Int):Calls prog 126 #[.int .i64 s] w (fun r w'=>r=.returned (.bool (offI 500 s))/\w'=w):=by
 have c:=qh (v7i w s)
 go_enter func126,ntmps126
 go_wp2_with fail
 refine c.out.mono ?_;rintro r d ⟨rfl,rfl⟩;go_wp2;go_ret;exact⟨z0v (by simp),rfl⟩
theorem x0b {n:Nat} {v:Value} {x:Nat->Int} (w:World) (d:Si none w v n x) (hn:(n:Int)<=9223372036854775807) :
  Calls prog 89 #[v] w (fun r w'=>r=.returned (.bool (isWord n x))/\w'=w):=by
 have c:=y1y w d hn (show TstF 126 #[] (offI 500) w from ⟨u1w,fun s=>by
  rw[show ∀ a:Value,(#[a]++#[]:Array Value)=#[a] from fun _=>rfl];exact x7a w s⟩)
 obtain⟨a,i,rfl⟩:=d.shape;have g:=qh c;clear c d;by_cases h:(n:Int)<=200
 ·go_enter func89,ntmps89
  go_wp2_with fail
  refine g.out.mono ?_;rintro r j ⟨rfl,rfl⟩;go_wp2;go_ret;exact⟨z0v (by unfold isWord y5i;rw[show decide (n<=200)=true by simp;omega];simp),rfl⟩
 have k:decide ((n:Int)<=200)=false:=by simp;omega
 go_enter func89,ntmps89
 go_wp2;go_ret;exact⟨z0v (by unfold isWord;rw[show decide (n<=200)=false by simp;omega];rfl),rfl⟩
theorem v3e {n i:Nat} {v:Value} {x:Nat->Int} (w:World) (j:Si none w v n x):Calls prog 93 #[v,.int .i64 (i:Int)] w (fun r w'=>r=.returned (.int .i64 (atW n x i))/\w'=w):=by
 obtain⟨a,l,b,p,rfl,g,u,s,hb,c⟩:=j.open;unfold maxLen at s;by_cases h:i<n
 ·have o:(i:Int)<(n:Int):=by omega
  have m:(0:Int)<=(i:Int):=by omega
  obtain rfl:=g (by omega);have c0:=c i h;have e:atW n x i=x i:=if_pos h;rw[e];obtain⟨k,d⟩:=exq (x i);rw[<- d] at c0;rw[<- d];clear c j hb g e d
  go_enter func93,ntmps93
  go_wp2;go_ret;exact⟨rfl,rfl⟩
 have o:¬ ((i:Int)<(n:Int)):=by omega
 have e:atW n x i=0:=if_neg h;rw[e];clear c j hb g e
 go_enter func93,ntmps93
 go_wp2;go_ret;exact⟨rfl,rfl⟩
theorem z5n (kind:Int) (na:Nat) (x:Nat->Int) (nb:Nat) (y:Nat->Int) (v:ByteArray):∀ i,(z3w kind na x nb y v i).n=i+1
 | 0=>rfl
 | i+1=>by
  show (z3w kind na x nb y v i).n+1=_;rw[z5n kind na x nb y v i]
theorem x3f (kind:Int) (na:Nat) (x:Nat->Int) (nb:Nat) (y:Nat->Int) (v:ByteArray):∀ i p,(z3w kind na x nb y v i).na p<=i
 | 0,p=>by show (if p=0 then 0 else 0)<=0;split<;>omega
 | i+1,p=>by
  have h1:=x3f kind na x nb y v i;show (if p=i then (if i=(z3w kind na x nb y v i).n then 0 else (z3w kind na x nb y v i).na i)+1 else (if p=(z3w kind na x nb y v i).n then 0 else (z3w kind na x nb y v i).na p))<=i+1
  have h2:=h1 i;have h3:=h1 p
  split<;>split<;>omega
theorem y7r (kind:Int) (na:Nat) (x:Nat->Int) (nb:Nat) (y:Nat->Int) (v:ByteArray):∀ i,(z3w kind na x nb y v i).kind=kind/\(z3w kind na x nb y v i).start=0/\(z3w kind na x nb y v i).lead=v
 | 0=>⟨rfl,rfl,rfl⟩
 | i+1=>y7r kind na x nb y v i
def u5p (kind:Int) (na:Nat) (x:Nat->Int) (nb:Nat) (y:Nat->Int) (v:ByteArray):Prop:=isWord na x=true/\isWord nb y=true/\z0s kind v=true
theorem Bld.c4 {w:World} {B db:Nat} {D:MD} {R:Nat->Value} {sv:Value} {one:ByteArray} {ac fl:Int} (h:Bld w B db D R sv one ac fl):w.cell? ⟨db,4,none⟩=some (.string one):=BlkB.c4 h.blk
theorem BlS.one {F:Nat->Prop} {B db:Nat} {D:MD} {one:ByteArray} {ac fl:Int} {w:World} (h:BlS F B db D one ac fl w):w.cell? ⟨db,4,none⟩=some (.string one):=by
 obtain⟨R,sv,c,d⟩:=h;exact c.c4
theorem y3v {kind:Int} {xv yv:Value} {na nb:Nat} {x y:Nat->Int} {v:ByteArray} (w:World) (hx:Si none w xv na x) (hy:Si none w yv nb y) (j7:(na:Int)<=9223372036854775807) (i4:(nb:Int)<=9223372036854775807) (hv:smS v) (ht:Tab w) (L:u5p kind na x nb y v) :
  Calls prog 40 #[.int .i64 kind,xv,yv,.string v] w (fun r w'=>Below w.heap.size w w'/\∃ sv R,r=.returned (.tuple #[.agg #[.int .i64 kind,.int .i64 0,.string v,sv],.int .i64 0])/\OwM w' w.heap.size sv (z9f kind na x nb y v) R):=by
 obtain⟨ax,cx,rfl⟩:=hx.shape;obtain⟨ay,cy,rfl⟩:=hy.shape;obtain⟨O,U,h6⟩:=L;have k4:na<=200:=by unfold isWord at O;simp at O;exact O.1
 have k5:nb<=200:=by unfold isWord at U;simp at U;exact U.1
 obtain⟨w1,a3⟩:=exq (w.alloc (.cells #[.int .i64 0,.int .i64 0,.string ⟨#[]⟩,.slice none 0 0] 24));obtain⟨rb,e5⟩:=exq (w.heap.size);have Q:Below w.heap.size w w1:=by rw[a3];exact(Below.refl _ w).alloc nlr _
 have h3:w1.heap[rb]?=some (.cells #[.int .i64 0,.int .i64 0,.string ⟨#[]⟩,.slice none 0 0] 24 (0,0)):=by rw[a3,e5];exact heap_alloc_new w _
 have j4:w.heap.size<=rb:=by omega
 have f4:∀ W,Below w.heap.size w W->Si none W (.slice ax na cx) na x:=fun W h=>hx.kept (z0b h none);have d2:∀ W,Below w.heap.size w W->Si none W (.slice ay nb cy) nb y:=fun W h=>hy.kept (z0b h none);have d1:=qh (x0b w1 (f4 w1 Q) j7);have e2:=qh (x0b w1 (d2 w1 Q) i4);have c8:=z3b kind v w1 hv (ht.below Q nlr);rw[h6] at c8;rw[O] at d1;rw[U] at e2;have f5:=qh c8;clear c8 O U h6 ht;have i9:=qh f4;clear f4 hx;have j8:=qh d2;clear d2 hy;have e6:=qh Q;clear Q;have e7:=qh h3;clear h3
 go_enter func40,ntmps40
 go_wp2_with fail
 rw[<- a3,<- e5];clear a3 e5;refine d1.out.mono ?_;rintro r l0 ⟨rfl,rfl⟩
 go_wp2_with fail
 refine e2.out.mono ?_;rintro r k2 ⟨rfl,rfl⟩
 go_wp2_with fail
 refine f5.out.mono ?_;rintro r w2 ⟨rfl,e4⟩;have a8:=e6.out.trans (e4.mono e6.out.size);have h0:=(e4.block _ (lt_of_block e7.out)).trans e7.out;have b1:=qh (y5y kind w2);have e1:=qh a8;clear a8 e4 e6 d1 e2 f5;have g5:=qh h0;clear h0 e7
 go_wp2_with fail
 refine b1.out.mono ?_;rintro r w3 ⟨E,rfl,d8,G,g4⟩;obtain⟨B,s⟩:=exq (w2.heap.size);rw[<- s] at d8 G g4;have d9:w.heap.size<=B:=by rw[s];exact e1.out.size
 have j3:B<=w3.heap.size:=by rw[s];rw[s] at G;exact G.size
 have X:=d8.old j3;obtain⟨⟨v1,j1⟩,j9,h8⟩:=X.cells;have j6:=h8 2;clear h8 j1;obtain⟨w4,a4⟩:=exq (w3.setCell ⟨E,2,none⟩ (.string v));have a7:BlS (fun b=>b<B) B E (z1r kind 0 v) (oneF kind) 0 0 w4:=by rw[a4];exact X.lead v
 have D:Below B w2 w4:=by rw[a4];exact G.setCell (p:=⟨E,2,none⟩) g4 _
 have j0:B<=w4.heap.size:=by rw[s];rw[s] at D;exact D.size
 have T:=qh (x2x ⟨#[]⟩ w4 a7 j0 (by show 0<=100000;omega));have b2:=qh D;clear D G d8 X a7 b1;have o:=qh s;clear s
 go_wp2_with fail
 rw[<- a4];clear a4 j9 j6;refine T.out.mono ?_;rintro r w5 ⟨rfl,a1⟩;have g9:(z1r kind 0 v).state ⟨#[]⟩=z3w kind na x nb y v 0:=rfl;rw[g9] at a1;have b3:BlN (fun b=>b<B) B E (z3w kind na x nb y v 0) (oneF kind) ((0:Nat):Int) 0 w5 w5:=BlN.refl a1.1;have a6:=b2.out.trans a1.2.2;have b4:=qh b3;clear b3 a1 g9 T;have I:=qh a6;clear a6 b2;obtain⟨m,hm⟩:=exq (max na nb);have k9:m<=200:=by omega
 have f7:max (na:Int) (nb:Int)=(m:Int):=by omega
 have HM:=qh hm;clear hm
 go_wp2_with fail
 clear f7
 go_loopw [11,43] (fun i6 d5 wr=>∃ i:Nat,i<=m/\i6=.int .i64 (i:Int)/\d5=.int .i64 (i:Int)/\BlN (fun b=>b<B) B E (z3w kind na x nb y v i) (oneF kind) (i:Int) 0 w5 wr) (fun _ d5 _=>m-(intOf d5).toNat)
 case atStart=>exact⟨0,Nat.zero_le _,rfl,rfl,b4.out⟩
 obtain⟨i,hi,rfl,rfl,h2⟩:=hrel;clear b4;have F:=qh h2;clear h2;have S:=I.out.trans F.out.2.2;have g3:B<=wr.heap.size:=by rw[o.out];rw[o.out] at S;exact S.size
 have l3:B<=w5.heap.size:=by have h:=I.out;rw[o.out];rw[o.out] at h;exact h.size
 by_cases l2:i<m
 ·have l4:(i:Int)<(m:Int):=by omega
  have e3:=x2x ⟨#[]⟩ wr F.out.1 g3 (by rw[z5n];omega);rw[z5n] at e3;have T:=qh e3;clear e3 S
  go_wp2_with fail
  refine T.out.mono ?_;rintro r w6 ⟨rfl,g7⟩;obtain⟨l,A⟩:=exq (w6.drew);have Z:Fr (fun _=>False) w6 l:=by rw[A];exact(Fr.refl _ _).drew
  have d:Below w6.heap.size w6 l:=Z.below nlr (fun _ e=>e.elim);have u:BlN (fun b=>b<B) B E ((z3w kind na x nb y v i).state ⟨#[]⟩) (oneF kind) (i:Int) 0 w5 l:=by
   have h1:=F.out.trans g7;exact⟨h1.1.kept d,fun b hb=>(d.block b (h1.1.lt.2.2 b hb)).trans (h1.2.1 b hb),h1.2.2.trans (d.mono (by have:=h1.2.2.size;omega))⟩
  have k:Below B w2 l:=I.out.trans u.2.2;have H:Below w.heap.size w l:=e1.out.trans (k.mono d9);have c4:=u.1.one;have j5:B<=l.heap.size:=by rw[o.out];rw[o.out] at k;exact k.size
  have e0:=qh (v3e (i:=i) l (i9.out l H));have d7:=qh (v3e (i:=i) l (j8.out l H));have b9:((z3w kind na x nb y v i).state ⟨#[]⟩).n=i+2:=by show (z3w kind na x nb y v i).n+1=_;rw[z5n]
  have b8:((z3w kind na x nb y v i).state ⟨#[]⟩).na i<=100000:=by
   show (if i=(z3w kind na x nb y v i).n then 0 else (z3w kind na x nb y v i).na i)<=100000
   have:=x3f kind na x nb y v i i
   split<;>omega
  have z:=u2n (q:=i) (atW na x i) (atW nb y i) ((i+1:Nat):Int) (oneF kind) l u.1 (by omega) (by omega) j5 (by rw[b9];omega) (by rw[b9];omega) b8;rw[show ((z3w kind na x nb y v i).state ⟨#[]⟩).arc i (atW na x i) (atW nb y i) (oneF kind) ((i+1:Nat):Int)=z3w kind na x nb y v (i+1) from rfl,show (i:Int)+1=((i+1:Nat):Int) by omega] at z;obtain⟨on,C⟩:=exq (oneF kind);rw[<- C] at c4 z;obtain⟨xi,e8⟩:=exq (atW na x i);obtain⟨yi,c7⟩:=exq (atW nb y i);rw[<- e8,<- c7] at z;rw[<- e8] at e0;rw[<- c7] at d7;have g1:=qh C;clear C;clear e8 c7;have a9:=qh z;clear z;have h4:=qh u;clear u g7 T F Z d b9 b8 k H
  go_wp2_with fail
  refine z0e (fun wk=>wk.cell? ⟨E,4,none⟩=some (.string on)) 14 (by kernel_rfl) ?_;rw[<- A];clear A;refine z0c.tm 0 c4 ?_;refine z0c.tm 1 c4 ?_;refine z0c.tm 2 c4 ?_;refine z0c.tm 3 c4 ?_;refine z0c.tm 5 c4 ?_;refine z0c.tm 6 c4 ?_;refine z0c.tm 8 c4 ?_;refine z0c.tm 9 c4 ?_;refine z0c.tm 10 c4 ?_;refine z0c.tm 11 c4 ?_;refine z0c.tm 12 c4 ?_
  try simp only[Act.put,tryL]
  refine z0c.on 4 fun K P=>?_;go_simp;refine e0.out.mono ?_;rintro r k7 ⟨rfl,rfl⟩;refine P.out _ _ (.inr c4) ?_;clear P K
  try simp only[Act.put,tryL]
  refine z0c.on 7 fun K P=>?_;go_simp;refine d7.out.mono ?_;rintro r k3 ⟨rfl,rfl⟩;refine P.out _ _ (.inr c4) ?_;clear P K
  try simp only[Act.put,tryL]
  refine z0c.tm 13 c4 ?_
  try simp only[Act.put,tryL]
  refine z0c.on 14 fun K P=>?_;go_simp;refine a9.out.mono ?_;rintro r w7 ⟨rfl,c9⟩;refine P.out _ _ (.inl rfl) (z0c.dn ?_);clear P K c4;rw[g1.out] at c9;have i2:=qh (h4.out.trans c9);clear c9 a9 h4 e0 d7;go_wp2;go_roundw
  case rel=>exact⟨i+1,by omega,by go_num,by go_num,i2.out⟩
  simp[intOf];omega
 have i7:m=i:=by omega
 subst i7;have k1:¬ ((m:Int)<(m:Int)):=by omega
 obtain⟨l,A⟩:=exq (wr.drew);have Z:Fr (fun _=>False) wr l:=by rw[A];exact(Fr.refl _ _).drew
 have d:Below wr.heap.size wr l:=Z.below nlr (fun _ e=>e.elim);have h9:=F.out.1.kept d;have k:Below B w2 l:=S.trans (d.mono g3);obtain⟨R,sv,j,a2⟩:=h9;obtain⟨g,cp,rfl,i3,k6,_,_⟩:=z7w j.own.top (by rw[z5n];omega);have d3:=BlkB.c3 j.blk;have d4:=BlkB.c4 j.blk;have g0:=j.own.fin_cell (i:=m) (by rw[z5n];omega);have fg:=z5v j.own.top (m*2);have g6:=j.own.setFin (q:=m) (by rw[z5n];omega) (oneF kind);rw[z5n] at d3;have i5:E≠g:=fun e=>z2n j.own.top j.blk (by decide) (by rw[e];rfl);obtain⟨w8,N⟩:=exq (l.setCell ⟨g,m*2,none⟩ (.string (oneF kind)));have b0:BlS (fun b=>b<B) B E (z9f kind na x nb y v) (oneF kind) (m:Int) 0 w8:=by
  have e:z9f kind na x nb y v=(z3w kind na x nb y v m).setFin m (oneF kind):=by unfold z9f;rw[<- HM.out]
  rw[e,N];refine⟨R,_,⟨by rw[z0g i5];exact j.blk,g6,j.low⟩,fun b hb=>⟨(a2 b hb).1,by rw[nblk_setCell];exact(a2 b hb).2.1,(a2 b hb).2.2⟩⟩
 have b5:Below B w2 w8:=by rw[N];exact k.setCell (p:=⟨g,m*2,none⟩) i3 _
 have c:l.cell? ⟨E,3,none⟩=some (.slice (some ⟨g,0,none⟩) (m+1) cp)/\l.cell? ⟨E,4,none⟩=some (.string (oneF kind)):=⟨d3,d4⟩;have a5:(z9f kind na x nb y v).n=m+1:=by unfold z9f;rw[<- HM.out];exact z5n kind na x nb y v m
 have f9:(z9f kind na x nb y v).kind=kind/\(z9f kind na x nb y v).start=0/\(z9f kind na x nb y v).lead=v:=by unfold z9f;exact y7r kind na x nb y v _
 have e9:=v8f w8 b0 (by rw[a5];omega) (by omega) (by omega);rw[a5] at e9;have h5:=qh e9;clear e9 b0;have f7:(m:Int)<(m:Int)+1:=by omega
 have k0:(0:Int)<=(m:Int):=by omega
 obtain⟨on,C⟩:=exq (oneF kind);rw[<- C] at c N;have g1:=qh C;clear C;have b7:=qh b5;clear b5 k S;have d0:=qh f9;clear f9;have j2:=qh a5;clear a5;clear d3 d4 j a2 g6 F Z d
 go_wp2_with fail
 refine z0e (fun wk=>wk.cell? ⟨E,3,none⟩=some (.slice (some ⟨g,0,none⟩) (m+1) cp)/\wk.cell? ⟨E,4,none⟩=some (.string on)) 12 (by kernel_rfl) ?_;rw[<- A];clear A;refine z0c.tm 0 c ?_;refine z0c.tm 1 c ?_;refine z0c.tm 2 c ?_;refine z0c.tm 3 c ?_;refine z0c.tm 4 c ?_;refine z0c.tm 5 c ?_;refine z0c.tm 6 c ?_;refine z0c.tm 7 c ?_;refine z0c.tm 8 c ?_;refine z0c.tm 9 c ?_;refine z0c.tm 10 c ?_;refine z0c.tm 11 c ?_
 try simp only[Act.put,tryL]
 refine z0c.on 12 fun K P=>?_;go_simp;refine P.out _ _ (.inl rfl) (z0c.dn ?_);clear P K c g0 fg;rw[<- N];clear N
 go_wp2_with fail
 refine h5.out.mono ?_;rintro r w9 ⟨f8,hr⟩;have Y:Below B w2 w9:=b7.out.trans (f8.mono (by have h:=b7.out;rw[o.out];rw[o.out] at h;exact h.size));have h7:=(Y.block _ (by rw[o.out];exact lt_of_block g5.out)).trans g5.out;have b6:=e1.out.trans (Y.mono d9);clear f8 Y h5;have i8:=qh b6;clear b6;have d6:=qh h7;clear h7;obtain⟨⟨r0,r1,r2,r3⟩,rz⟩:=cells4 d6.out;have f0:=rz 0;have f1:=rz 1;have f2:=rz 2;have f3:=rz 3;clear rz
 rcases hr with ⟨L,l1,R',rfl,J⟩|⟨L,rfl⟩
 rotate_left
 ·exact absurd (show dnOk 0 (m+1) (m:Int) from ⟨rfl,by omega,by omega⟩) L
 rw[d0.out.1,d0.out.2.1,d0.out.2.2];obtain⟨sa,sc,g8,_,_⟩:=z1e J.top;rw[j2.out] at g8;subst g8;have g2:=qh (z3z (J.box4 d6.out (.int .i64 kind) (.int .i64 0) (.string v) (.slice sa (m+1) sc)) d9);clear J L
 go_wp2_with fail
 exact bodyPost_ret (z0j rfl _ (b:=rb) rfl rfl (z0w w9 rb _ _ _ _ d6.out)) rfl ⟨z0d i8.out j4 _ _ _ _,_,R',rfl,g2.out⟩
end
section
open Go.RowKit Go.Deep
def allocs (w:World) (l:List Obj):World:=l.foldl World.alloc w
theorem y2c:∀ (l:List Obj) (w a:World) (B:Nat),Below B a w->B<=w.heap.size->Below B a (allocs w l)
 | [],_,_,_,h,_=>h
 | o::l,w,a,B,h,hB=>y2c l (w.alloc o) a B (h.alloc hB o) (by simp;omega)
theorem y5n:∀ (l:List Obj) (w:World) {q:Nat},q<w.heap.size->(allocs w l).heap[q]?=w.heap[q]?
 | [],_,_,_=>rfl
 | o::l,w,q,h=>(y5n l (w.alloc o) (by simp;omega)).trans (blk_alloc_lt _ _ _ h)
theorem z8i:∀ (l:List Obj) (w:World) {i:Nat} {o:Obj},l[i]?=some o->(allocs w l).heap[w.heap.size+i]?=some o
 | [],_,_,_,h=>by simp at h
 | o'::l,w,0,o,h=>by
  simp at h;subst h;exact(y5n l (w.alloc o') (by simp)).trans (heap_alloc_new w o')
 | o'::l,w,i+1,o,h=>by
  have:=z8i l (w.alloc o') (i:=i) (o:=o) (by simpa using h);rw[show (w.alloc o').heap.size+i=w.heap.size+(i+1) by simp;omega] at this;exact this
theorem z7q {w:World} {b n:Nat} {c:Array Value} {t:TypeId} {f:Nat × Nat} {x:Nat->Int} (h:w.heap[b]?=some (.cells c t f)) (hn:n<=maxLen) (d:∀ i,i<n->c[i]?=some (.int .i64 (x i))):Si none w (.slice (some ⟨b,0,none⟩) n n) n x :=
 .inr ⟨b,0,n,rfl,⟨lt_of_block h,by simp⟩,nlr,hn,fun i hi=>by rw[Nat.zero_add];exact cellOf h i (d i hi)⟩
theorem lt1 {p:Nat->Prop} (h:p 0):∀ i,i<1->p i:=fun i hi=>by
 have:i=0:=by omega
 subst this;exact h
theorem lt2 {p:Nat->Prop} (h:p 0) (c:p 1):∀ i,i<2->p i:=fun i hi=>by
 have:i=0\/i=1:=by omega
 rcases this with rfl|rfl<;>assumption
theorem y0k:1<=maxLen:=by unfold maxLen;omega
theorem y3p:2<=maxLen:=by unfold maxLen;omega
theorem u1v {w:World} {b:Nat} {c:Array Value} {t:TypeId} {f:Nat × Nat} {D:MD} {i:Nat} (h:w.heap[b]?=some (.cells c t f)) (hn:D.na i<=maxLen)
  (g:∀ k,k<D.na i->c[k*4]?=some (.int .i64 (D.ain i k))/\c[k*4+1]?=some (.int .i64 (D.aout i k))/\c[k*4+2]?=some (.string (D.aw i k))/\c[k*4+3]?=some (.int .i64 (D.ato i k))):ArS none w (.slice (some ⟨b,0,none⟩) (D.na i) (D.na i)) D i :=
 .inr ⟨b,0,D.na i,rfl,⟨lt_of_block h,by simp⟩,nlr,hn,fun k d=>by
  obtain⟨c1,c2,c3,c4⟩:=g k d;rw[Nat.zero_add];exact⟨cellOf h _ c1,cellOf h _ c2,cellOf h _ c3,cellOf h _ c4⟩⟩
theorem v9b (w:World) {D:MD} {i:Nat} (h:D.na i=0):ArS none w (.slice none 0 0) D i:=.inl ⟨h,none,0,rfl,Nat.zero_le _⟩
theorem u0c {w:World} {b:Nat} {c:Array Value} {t:TypeId} {f:Nat × Nat} {D:MD} {A:Nat->Value} (h:w.heap[b]?=some (.cells c t f)) (hn:D.n<=maxLen)
  (d:∀ i,i<D.n->c[i*2]?=some (.string (D.fin i))/\c[i*2+1]?=some (A i)/\ArS none w (A i) D i):StS none w (.slice (some ⟨b,0,none⟩) D.n D.n) D :=
 .inr ⟨b,0,D.n,A,rfl,⟨lt_of_block h,by simp⟩,nlr,hn,fun i hi=>by
  obtain⟨c1,c2,c3⟩:=d i hi;rw[Nat.zero_add];exact⟨cellOf h _ c1,cellOf h _ c2,c3⟩⟩
theorem x2s {w:World} {b n:Nat} {c:Array Value} {t:TypeId} {f:Nat × Nat} {x y:Nat->Int} (h:w.heap[b]?=some (.cells c t f)) (hn:n<=maxLen) (d:∀ i,i<n->c[i*2]?=some (.int .i64 (x i))/\c[i*2+1]?=some (.int .i64 (y i))):PrS none w (.slice (some ⟨b,0,none⟩) n n) n x y :=
 .inr ⟨b,0,n,rfl,⟨lt_of_block h,by simp⟩,nlr,hn,fun i hi=>by
  rw[Nat.zero_add];exact⟨cellOf h _ (d i hi).1,cellOf h _ (d i hi).2⟩⟩
theorem y6w:MSz mD:=⟨by decide,fun i=>by show (if i=0 then (⟨#[]⟩:ByteArray) else ⟨#[48]⟩).size<=_;split<;>decide,fun i d=>by show (if d=0 then (⟨#[49]⟩:ByteArray) else ⟨#[50]⟩).size<=_;split<;>decide,fun i=>by show (if i=0 then 2 else 0)<=_;split<;>omega,by decide,by decide⟩
theorem x4b {kind:Int} {na:Nat} {x:Nat->Int} {nb:Nat} {y:Nat->Int} {v:ByteArray} (hk:z4c kind=true) (hx:∀ i,0<=atW na x i/\atW na x i<=500) (hy:∀ i,0<=atW nb y i/\atW nb y i<=500) {N:Nat}:∀ i,i<N->BOk (z3w kind na x nb y v i) N i
 | 0,_=>(BOk.empty kind 0 v N).state (.inl rfl) (Nat.zero_le _)
 | i+1,hi=>by
  have ih:=x4b (v:=v) hk hx hy i (N:=N) (by omega);have hkk:((z3w kind na x nb y v i).state ⟨#[]⟩).kind=kind:=(y7r kind na x nb y v i).1;exact(ih.state (s:=⟨#[]⟩) (.inl rfl) (Nat.zero_le _)).put (hx i) (hy i) (by constructor<;>omega) (by rw[hkk];exact z9c hk) (y8q hk)
theorem y8w {kind:Int} {na:Nat} {x:Nat->Int} {nb:Nat} {y:Nat->Int} {v:ByteArray} (c:z4c kind=true) (h:∀ i,0<=atW na x i/\atW na x i<=500) (g:∀ i,0<=atW nb y i/\atW nb y i<=500) (j:smS v) (hn:max na nb<=1000):MSz (z9f kind na x nb y v):=by
 have d:=(y7r kind na x nb y v (max na nb));have k:=(x4b (v:=v) c h g (N:=max na nb+1) (max na nb) (by omega)).setFin (q:=max na nb) (s:=oneF kind) (.inr (by rw[d.1];exact z9c c)) (y8q c);have l:(z9f kind na x nb y v).n=max na nb+1:=z5n kind na x nb y v _;exact k.msz (by show z4c (z3w kind na x nb y v (max na nb)).kind=true;rw[d.1];exact c) (by show (z3w kind na x nb y v (max na nb)).n<=_;rw[z5n];omega) (by show smS (z3w kind na x nb y v (max na nb)).lead;rw[d.2.2];exact j) (by omega)
theorem y6g {n:Nat} {x:Nat->Int} (h:∀ i,0<=x i/\x i<=500) (i:Nat):0<=atW n x i/\atW n x i<=500:=by unfold atW;split;exact h i;omega
theorem x8f (i:Nat):0<=y12 i/\y12 i<=500:=by unfold y12;split<;>omega
theorem u4m:MSz dD:=y8w (by decide) (y6g x8f) (y6g fun _=>by unfold c3;omega) (by unfold smS;decide) (by decide)
theorem v7y:MSz abD:=y8w (by decide) (y6g x8f) (y6g x8f) (by unfold smS;decide) (by decide)
theorem u4z:MSz kD:=y8w (by decide) (y6g fun _=>by unfold c3;omega) (y6g fun _=>by unfold c3;omega) (by unfold smS;decide) (by decide)
theorem u5i:MSz (revD dD):=x8u u3c u4m
theorem u1d {D E:MD} (c:VM D) (g:MSz D) (d:VM E) (h:MSz E) (l:E.kind=D.kind) {lead:ByteArray} (j:smS lead):MSz (catD D E lead):=by
 obtain⟨i,o,k,m⟩:=v2g c g d h l lead;have:=c.n2;have:=d.n2;have:=c.arcs;have:=d.arcs;exact i.msz (by rw[k];exact c.kind) (by rw[o];omega) (by rw[m];exact j) (by omega)
theorem u5m:MSz cD:=u1d v8q.inZ { v7y with } (VM.outZ u3z) { u4z with } (by decide +kernel) (by unfold smS;decide +kernel)
def TrueB (w:World) (r:Ending) (w':World):Prop:=r=.returned (.bool true)/\Below w.heap.size w w'
def NewD (D:MD) (w:World) (r:Ending) (w':World):Prop:=Below w.heap.size w w'/\∃ sv,r=.returned (.agg #[.int .i64 D.kind,.int .i64 D.start,.string D.lead,sv])/\StS none w' sv D
theorem v6q (w:World):Calls prog 39 #[] w (NewD mD w):=by
 go_enter func39,ntmps39
 go_wp2_with fail
 obtain⟨l,c⟩:∃ l,l=[Obj.cells #[.int .i64 1,.int .i64 0,.string ⟨#[48]⟩,.slice (some ⟨w.heap.size+2,0,none⟩) 2 2] 24,.cells #[.int .i64 1,.int .i64 2,.string ⟨#[49]⟩,.int .i64 1,.int .i64 1,.int .i64 3,.string ⟨#[50]⟩,.int .i64 1] 59,
  .cells #[.string ⟨#[]⟩,.slice (some ⟨w.heap.size+1,0,none⟩) 2 2,.string ⟨#[48]⟩,.slice none 0 0] 57]:=⟨_,rfl⟩
 have j:(allocs w l).heap[w.heap.size+0]?=_:=z8i l w (i:=0) (by rw[c];rfl);have g:(allocs w l).heap[w.heap.size+1]?=_:=z8i l w (i:=1) (by rw[c];rfl);have k:(allocs w l).heap[w.heap.size+2]?=_:=z8i l w (i:=2) (by rw[c];rfl);have d:=y2c l w w w.heap.size blr nlr;subst c;refine bodyPost_ret (x5m rfl _ (b:=w.heap.size) rfl j) rfl ⟨d,_,rfl,?_⟩;refine u0c (D:=mD) (A:=fun i=>if i=0 then .slice (some ⟨w.heap.size+1,0,none⟩) 2 2 else .slice none 0 0) k y3p (fun i hi=>?_)
 have h:i=0\/i=1:=by have:i<2:=hi;omega
 rcases h with rfl|rfl
 ·exact⟨rfl,rfl,u1v (D:=mD) (i:=0) g y3p (lt2 ⟨rfl,rfl,rfl,rfl⟩ ⟨rfl,rfl,rfl,rfl⟩)⟩
 exact⟨rfl,rfl,v9b _ rfl⟩
theorem z5u {D:MD} {mv K J:Value} {na nb:Nat} {x y:Nat->Int} {s:ByteArray} (w:World) (P:Ma none w mv D) (N:MSz D) (I:Tab w) (F:Si none w K na x) (C:Si none w J nb y) (G:na<=100) (z:nb<=100) (m:VOk D na x nb y s) :
  Calls prog 41 #[mv,K,J] w (fun r w'=>r=.returned (.string s)/\Below w.heap.size w w'):=by
 obtain⟨sv,rfl,B⟩:=P;obtain⟨a,i,_,_,_,_,_,_,u,_⟩:=B.open;obtain⟨S,T,rfl⟩:=F.shape;obtain⟨R,U,rfl⟩:=C.shape;subst u;obtain⟨h,d⟩:=exq (w.alloc (.cells #[.int .i64 D.kind,.int .i64 D.start,.string D.lead,.slice a D.n i] 24));have k:Fr (fun _=>False) w h:=by rw[d];exact Fr.alloc _ _
 have c:Below w.heap.size w h:=k.below nlr (fun _ e=>e.elim);have L:=qh (y3b h (⟨_,rfl,B.kept (z0b c none)⟩:Ma none h (.agg #[.int .i64 D.kind,.int .i64 D.start,.string D.lead,.slice a D.n i]) D) N (I.below c nlr) (F.kept (z0b c none)) (C.kept (z0b c none)) (by omega) (by omega));have l:h.heap[w.heap.size]?=some (.cells #[.int .i64 D.kind,.int .i64 D.start,.string D.lead,.slice a D.n i] 24 (0,0)):=by rw[d];exact heap_alloc_new w _
 obtain⟨⟨m0,m1,O,H⟩,_⟩:=cells4 l;have j:=qh c;clear c k F C B I N l G z;have g:=qh m;clear m;rw[d] at m0 m1 O H
 go_enter func41,ntmps41
 go_wp2_with fail
 rw[<- d];clear d m0 m1 O H;refine L.out.mono ?_;rintro r W ⟨p,Q⟩;have E:=qh (j.out.trans (p.mono j.out.size));clear p j L
 rcases Q with ⟨_,_,_,st,e,o,rfl⟩|⟨A,rfl⟩
 rotate_left
 ·exact absurd ⟨g.out.1,g.out.2.1,g.out.2.2.1⟩ A
 rw[g.out.2.2.2 st e o];clear o g;go_wp2;go_ret;exact⟨rfl,E.out⟩
end
section
open Go.RowKit Go.Deep
def RvS (F:Nat->Prop) (B g cp:Nat) (M:MD) (w:World):Prop:=∃ R,OwM w B (.slice (some ⟨g,0,none⟩) M.n cp) M R/\∀ b,F b->Fre w (.slice (some ⟨g,0,none⟩) M.n cp) R M.n b
def RvN (F:Nat->Prop) (B g cp:Nat) (M:MD) (w w':World):Prop:=RvS F B g cp M w'/\(∀ b,F b->w'.heap[b]?=w.heap[b]?)/\Below B w w'
theorem RvS.sub {F c:Nat->Prop} {B g cp:Nat} {M:MD} {w:World} (h:RvS F B g cp M w) (i:∀ b,c b->F b):RvS c B g cp M w:=by
 obtain⟨R,d,j⟩:=h;exact⟨R,d,fun b hb=>j b (i b hb)⟩
theorem RvN.trans {F:Nat->Prop} {B g cp:Nat} {M M':MD} {w i d:World} (h:RvN F B g cp M w i) (c:RvN F B g cp M' i d):RvN F B g cp M' w d :=
 ⟨c.1,fun b hb=>(c.2.1 b hb).trans (h.2.1 b hb),h.2.2.trans c.2.2⟩
theorem RvN.sub {F c:Nat->Prop} {B g cp:Nat} {M:MD} {w d:World} (h:RvN F B g cp M w d) (i:∀ b,c b->F b):RvN c B g cp M w d:=⟨h.1.sub i,fun b hb=>h.2.1 b (i b hb),h.2.2⟩
theorem RvN.refl {F:Nat->Prop} {B g cp:Nat} {M:MD} {w:World} (h:RvS F B g cp M w):RvN F B g cp M w w:=⟨h,fun _ _=>rfl,blr⟩
theorem RvS.lt {F:Nat->Prop} {B g cp:Nat} {M:MD} {w:World} (h:RvS F B g cp M w):∀ b,F b->b<w.heap.size:=by
 obtain⟨R,d,c⟩:=h;exact fun b hb=>(c b hb).1
theorem RvS.kept {F:Nat->Prop} {B g cp:Nat} {M:MD} {w c:World} (h:RvS F B g cp M w) (hb:Below w.heap.size w c):RvS F B g cp M c:=by
 obtain⟨R,j,i⟩:=h;exact⟨R,j.kept (z0b hb none) (by simp),fun b d=>⟨Nat.lt_of_lt_of_le (i b d).1 hb.size,(i b d).2⟩⟩
theorem RvN.kept {F:Nat->Prop} {B g cp:Nat} {M:MD} {w c d:World} (h:RvN F B g cp M w c) (j:B<=w.heap.size) (hb:Below c.heap.size c d):RvN F B g cp M w d :=
 ⟨h.1.kept hb,fun b i=>(hb.block b (h.1.lt b i)).trans (h.2.1 b i),h.2.2.trans (hb.mono (Nat.le_trans j h.2.2.size))⟩
theorem RvS.grown {F:Nat->Prop} {B g cp:Nat} {M:MD} {w d:World} (h:RvS F B g cp M w) (hb:Below w.heap.size w d) (p:g<w.heap.size):RvS (fun b=>F b\/(w.heap.size<=b/\b<d.heap.size)) B g cp M d:=by
 obtain⟨R,j,k⟩:=h;refine⟨R,j.kept (z0b hb none) (by simp),fun b c=>?_⟩
 rcases c with c|⟨m,l⟩
 ·exact⟨Nat.lt_of_lt_of_le (k b c).1 hb.size,(k b c).2⟩
 refine⟨l,fun e=>?_,fun i hi e=>?_⟩
 ·have o:g=b:=by simpa [Value.ownBlock] using e
  omega
 have:=(World.ownsRow.lt (j.row i hi) b e).2;omega
theorem x9p {d m:World} {B g l cp u q:Nat} {M:MD} {R:Nat->Value} {o:Obj} {a b t:Int} {x:ByteArray} (P:B<=d.heap.size) (h:OwM d B (.slice (some ⟨g,0,none⟩) M.n cp) M R) (A:q<M.n)
  (O:m.ownsRow B 59 4 (.slice (some ⟨l,0,none⟩) (M.na q+1) u) (M.na q+1) (cat (arc4 M q) (M.na q)++[.int .i64 a,.int .i64 b,.string x,.int .i64 t])) (C:(d.alloc o).grownBy m (R q).ownBlock)
  (G:(R q).ownBlock=some l\/(d.alloc o).heap.size<=l) :
  OwM (m.setCell ⟨g,q*2+1,none⟩ (.slice (some ⟨l,0,none⟩) (M.na q+1) u)) B (.slice (some ⟨g,0,none⟩) M.n cp) (M.arc q a b x t) (fun i=>if i=q then .slice (some ⟨l,0,none⟩) (M.na q+1) u else R i) /\
  (m.cell? ⟨g,q*2+1,none⟩=some (R q)/\m.frozen? ⟨g,q*2+1,none⟩=false) /\
  (∀ c,Fre d (.slice (some ⟨g,0,none⟩) M.n cp) R M.n c->m.heap[c]?=d.heap[c]?/\(m.setCell ⟨g,q*2+1,none⟩ (.slice (some ⟨l,0,none⟩) (M.na q+1) u)).heap[c]?=d.heap[c]? /\
   Fre (m.setCell ⟨g,q*2+1,none⟩ (.slice (some ⟨l,0,none⟩) (M.na q+1) u)) (.slice (some ⟨g,0,none⟩) M.n cp) (fun i=>if i=q then .slice (some ⟨l,0,none⟩) (M.na q+1) u else R i) M.n c) /\
  Below B d (m.setCell ⟨g,q*2+1,none⟩ (.slice (some ⟨l,0,none⟩) (M.na q+1) u)):=by
 have Q:(d.alloc o).heap.size=d.heap.size+1:=by simp
 have J:∀ c,(Value.slice (some ⟨l,0,none⟩) (M.na q+1) u).ownBlock=some c->(R q).ownBlock=some c\/d.heap.size<=c:=fun c j=>by
  have e:l=c:=by simpa [Value.ownBlock] using j
  subst e
  rcases G with H|H
  ·exact .inl H
  right;omega
 have s:(R q).ownBlock≠some g:=fun e=>h.tne A e rfl;have D:=World.ownsRow.lt h.top g rfl;have E:=h.arc (a:=a) (b:=b) (x:=x) (t:=t) A O C J;have F:m.ownsRow B 57 2 (.slice (some ⟨g,0,none⟩) M.n cp) M.n (cat (st2 M R) M.n):=z2j (World.ownsRow.alloc h.top o) C (fun c j e=>by
  have I:g=c:=by simpa [Value.ownBlock] using j
  subst I;exact s e)
 have z:(d.alloc o).cell? ⟨g,q*2+1,none⟩=some (R q):=((Below.refl d.heap.size d).alloc nlr o).cell D.2 |>.trans (h.arcs_cell A)
 refine⟨E,⟨C.cell z (fun e=>s e.symm),z5v F _⟩,fun c j=>?_,?_⟩
 ·have K:c≠g:=fun e=>j.2.1 (by rw[e];rfl);have H:m.heap[c]?=d.heap[c]?:=(C.block c (by have:=j.1;omega) (fun e=>j.2.2 q A e.symm)).trans (blk_alloc_lt _ _ _ j.1);refine⟨H,by rw[z0g K];exact H,⟨by rw[nblk_setCell];have:=C.size;have:=j.1;omega,j.2.1,fun i hi=>?_⟩⟩
  dsimp only
  split
  ·intro e;have I:l=c:=by simpa [Value.ownBlock] using e
   subst I
   rcases G with L|L
   ·exact j.2.2 q A L
   have:=j.1;omega
  exact j.2.2 i hi
 exact(((Below.refl B d).alloc P o).grown C (by omega) (fun k N=>(World.ownsRow.lt (h.row q A) k N).1)).setCell (p:=⟨g,q*2+1,none⟩) D.1 _
end
section
open Go.RowKit Go.Deep
def RevE (D:MD) (w:World) (r:Ending) (w':World):Prop :=
 Below w.heap.size w w'/\((VM D/\VM (revD D)/\∃ sv R,r=.returned (.tuple #[.agg #[.int .i64 D.kind,.int .i64 (D.n:Int),.string D.lead,sv],.int .i64 0])/\OwM w' w.heap.size sv (revD D) R) \/
  (VM D/\¬ VM (revD D)/\r=.returned (.tuple #[z9g,.int .i64 2]))\/(¬ VM D/\r=.returned (.tuple #[z9g,.int .i64 1])))
theorem v6b {w:World} {B:Nat} {D:MD} {zs:Array Value} (g:B<=w.heap.size) (c:zs=madeCells (Value.agg #[.string ⟨#[]⟩,.slice none 0 0]).cells ((D.n+1)*2)) (hn:D.n+1<=maxLen) :
  OwM (w.alloc (.cells zs 57)) B (.slice (some ⟨w.heap.size,0,none⟩) (D.n+1) (D.n+1)) (revZ D) (fun _=>.slice none 0 0):=by
 refine⟨⟨?_,.inr ⟨w.heap.size,D.n+1,zs,rfl,g,heap_alloc_new w _,nlr,hn,by rw[c];exact size_madeCells _ _,?_⟩⟩,fun i _=>World.ownsRow_nil _ _ _ _,fun i j _ _ _ b hb=>by cases hb⟩
 ·exact z4h (z4w _ _) _
 have d:zs.toList=cat (st2 (revZ D) (fun _=>.slice none 0 0)) (D.n+1):=by
  rw[c];exact v4a (Value.agg #[.string ⟨#[]⟩,.slice none 0 0]).cells (by decide) (D.n+1)
 have h:(cat (st2 (revZ D) (fun _=>.slice none 0 0)) (D.n+1)).length=(D.n+1)*2:=z4h (z4w _ _) _;rw[d];show List.take ((D.n+1)*2) _=_;rw[<- h,List.take_length];rfl
theorem x1m {D:MD} {mv:Value} (w:World) (hM:Ma none w mv D) (l7:MSz D) (ht:Tab w):Calls prog 26 #[mv] w (RevE D w):=by
 obtain⟨sv,rfl,hS⟩:=hM;obtain⟨a,cp,b,s8,A,C,BB,O,rfl,ha,hc,hm,hb,a2⟩:=hS.open;obtain⟨w1,e6⟩:=exq (w.alloc (.cells #[.int .i64 D.kind,.int .i64 D.start,.string D.lead,.slice a D.n cp] 24));obtain⟨w2,f4⟩:=exq (w1.alloc (.cells #[.int .i64 0,.int .i64 0,.string ⟨#[]⟩,.slice none 0 0] 24));have g6:w1.heap.size=w.heap.size+1:=by rw[e6];simp
 have y9:Fr (fun _=>False) w w1:=by rw[e6];exact Fr.alloc _ _
 have w3:Fr (fun _=>False) w1 w2:=by rw[f4];exact Fr.alloc _ _
 have x3:w1.heap[w.heap.size]?=some (.cells #[.int .i64 D.kind,.int .i64 D.start,.string D.lead,.slice a D.n cp] 24 (0,0)):=by rw[e6];exact heap_alloc_new w _
 have l5:w2.heap[w.heap.size]?=some (.cells #[.int .i64 D.kind,.int .i64 D.start,.string D.lead,.slice a D.n cp] 24 (0,0)):=(w3.block _ (lt_of_block x3) (fun e=>e)).trans x3;have v7:w2.heap[w.heap.size+1]?=some (.cells #[.int .i64 0,.int .i64 0,.string ⟨#[]⟩,.slice none 0 0] 24 (0,0)):=by rw[<- g6,f4];exact heap_alloc_new w1 _
 have l2:Below w.heap.size w w2:=(y9.trans w3).below nlr (fun _ e=>e.elim);obtain⟨mb,l6⟩:=exq (w.heap.size);obtain⟨k,x4⟩:=exq (w.heap.size+1);have j6:w.heap.size<=k:=by omega
 have C3:mb≠k:=by omega
 rw[<- l6] at l5;rw[<- x4] at v7;obtain⟨⟨m0,m1,m2,m3⟩,_⟩:=cells4 l5;have A5:=qh (z2d w2 (⟨_,rfl,hS.kept (z0b l2 none)⟩:Ma none w2 (.agg #[.int .i64 D.kind,.int .i64 D.start,.string D.lead,.slice a D.n cp]) D) l7 (ht.below l2 nlr));have v9:=qh l2;clear l2;have s9:=qh l5;clear l5 x3 y9 w3 g6;have u9:=qh v7;clear v7;have s6:=qh l7;clear l7;have HT:=qh ht;clear ht;have HA:=qh ha;clear ha;have HB:=qh hb;clear hb;have HR:=qh a2;clear a2 hS;rw[l6,f4,e6] at m0 m1 m2 m3
 go_enter func26,ntmps26
 go_wp2_with fail
 rw[<- e6,<- f4,<- x4,<- l6];clear m0 m1 m2 m3 e6 f4 x4 l6;refine A5.out.mono ?_;rintro r w4 ⟨l0,hr⟩;have q8:=v9.out.trans (l0.mono v9.out.size);have z2:=(l0.block _ (lt_of_block s9.out)).trans s9.out;have y7:=(l0.block _ (lt_of_block u9.out)).trans u9.out;clear l0 A5 v9 s9 u9;have u5:=qh q8;clear q8;have t9:=qh z2;clear z2;have m4:=qh y7;clear y7
 rcases hr with ⟨hv,rfl⟩|⟨hv,rfl⟩
 rotate_left
 ·have HV:=qh hv;clear hv;obtain⟨⟨r0,r1,r2,r3⟩,rz⟩:=cells4 m4.out;have f0:=rz 0;have f1:=rz 1;have f2:=rz 2;have f3:=rz 3;clear rz
  go_wp2_with fail
  exact bodyPost_ret (z0j rfl _ (b:=k) rfl rfl (z0w w4 k _ _ _ _ m4.out)) rfl ⟨z0d u5.out j6 _ _ _ _,.inr (.inr ⟨HV.out,rfl⟩)⟩
 have E2:1<=D.n:=hv.n1;have E3:D.n<=3000:=hv.n2;have HV:=qh hv;clear hv;obtain rfl:=HA.out (by omega);unfold maxLen at hm;obtain⟨n,hn⟩:=exq (D.n);rw[<- hn] at E2 E3 hc;have u8:=z6r (P:=prog) 22 57 _ 2 40 underlying22 x9j .i64 .i64 (n+1) (by omega) (by omega);obtain⟨zs,v0⟩:=exq (madeCells (Value.agg #[.string ⟨#[]⟩,.slice none 0 0]).cells ((n+1)*2));rw[<- v0] at u8;have z6:((n+1:Nat):Int)=(n:Int)+1:=by omega
 rw[z6] at u8;have C1:=qh v0;clear v0;have HN:=qh hn;clear hn;obtain⟨⟨m0,m1,m2,m3⟩,_⟩:=cells4 t9.out;rw[<- HN.out] at m3;rw[<- HN.out]
 go_wp2_with fail
 refine z0e (fun wk=>wk.cell? ⟨mb,0,none⟩=some (.int .i64 D.kind)/\wk.cell? ⟨mb,2,none⟩=some (.string D.lead)) 9 (by kernel_rfl) ?_;obtain⟨h,u⟩:=exq (w4.drew);rw[<- u];have c:h.cell? ⟨mb,0,none⟩=some (.int .i64 D.kind)/\h.cell? ⟨mb,2,none⟩=some (.string D.lead):=by rw[u];exact⟨m0,m2⟩
 have h7:Below w.heap.size w h:=by rw[u];exact u5.out.drew
 have z7:h.heap[mb]?=some (.cells #[.int .i64 D.kind,.int .i64 D.start,.string D.lead,.slice (some ⟨b,s8,none⟩) D.n cp] 24 (0,0)):=by rw[u];exact t9.out
 have i5:h.heap[k]?=some (.cells #[.int .i64 0,.int .i64 0,.string ⟨#[]⟩,.slice none 0 0] 24 (0,0)):=by rw[u];exact m4.out
 clear m0 m1 m2 m3 u;have d4:=qh h7;clear h7 u5 t9 m4;have k0:=qh z7;clear z7;have z:=qh i5;clear i5;have D0:IntKind.i64.wrap ((n:Int)+1)=(n:Int)+1:=by rw[IntKind.wrap_i64];omega
 refine z0c.tm 0 c ?_;refine z0c.tm 1 c ?_;refine z0c.tm 2 c ?_;refine z0c.tm 3 c ?_;refine z0c.tm 4 c ?_;refine z0c.tm 5 c ?_;refine z0c.tm 6 c ?_
 try simp only[Act.put,tryL]
 clear D0;refine z0c.on 7 fun K N=>?_;go_simp;obtain⟨g,hg⟩:=exq (h.heap.size);obtain⟨wa,g0⟩:=exq (h.alloc (.cells zs 57));have e4:Below h.heap.size h wa:=by rw[g0];exact(Below.refl _ h).alloc nlr _
 have p0:OwM wa w.heap.size (.slice (some ⟨g,0,none⟩) (n+1) (n+1)) (revZ D) (fun _=>.slice none 0 0):=by
  have h1:=v6b (w:=h) (B:=w.heap.size) (D:=D) (zs:=zs) d4.out.size (by rw[C1.out,HN.out]) (by unfold maxLen;have:=HN.out;omega);rw[<- g0,<- hg,<- HN.out] at h1;exact h1
 have l3:=(e4.block _ (lt_of_block k0.out)).trans k0.out;have B1:=(e4.block _ (lt_of_block z.out)).trans z.out;have y5:=d4.out.trans (e4.mono d4.out.size);have B2:mb≠g/\k≠g:=by have:=lt_of_block k0.out;have:=lt_of_block z.out;omega
 have s7:g<wa.heap.size:=by rw[g0,hg];simp
 have F5:w.heap.size<=g:=by rw[hg];exact d4.out.size
 rw[<- g0,<- hg];have U:wa.cell? ⟨mb,0,none⟩=some (.int .i64 D.kind)/\wa.cell? ⟨mb,2,none⟩=some (.string D.lead):=⟨(cells4 l3).1.1,(cells4 l3).1.2.2.1⟩;refine N.out _ _ (.inr U) ?_;clear N K u8 z6 c g0 hg e4;have p6:=qh p0;clear p0;have x2:=qh l3;clear l3 k0;have j8:=qh B1;clear B1 z;have v6:=qh y5;clear y5 d4
 try simp only[Act.put,tryL]
 obtain⟨⟨r0,r1,r2,r3⟩,rz⟩:=cells4 j8.out;have f0:=rz 0;have f1:=rz 1;have f2:=rz 2;have f3:=rz 3;clear rz;refine z0c.on 8 fun K N=>?_;go_simp;refine N.out _ _ (.inr U) ?_;clear N K
 try simp only[Act.put,tryL]
 refine z0c.on 9 fun K N=>?_;go_simp;refine N.out _ _ (.inl rfl) (z0c.dn ?_);clear N K U;obtain⟨wb,h8⟩:∃ wb,wb=(((wa.setCell ⟨k,0,none⟩ (.int .i64 D.kind)).setCell ⟨k,1,none⟩ (.int .i64 (n:Int))).setCell ⟨k,2,none⟩ (.string D.lead)).setCell ⟨k,3,none⟩ (.slice (some ⟨g,0,none⟩) (n+1) (n+1)):=⟨_,rfl⟩;have u4:Fr (fun q=>q=k) wa wb:=by rw[h8];exact(((((Fr.refl (fun q=>q=k) wa).set (p:=⟨k,0,none⟩) (.inl rfl) _).set (p:=⟨k,1,none⟩) (.inl rfl) _).set (p:=⟨k,2,none⟩) (.inl rfl) _).set (p:=⟨k,3,none⟩) (.inl rfl) _)
 have w8:wb.heap[k]?=some (.cells #[.int .i64 D.kind,.int .i64 (n:Int),.string D.lead,.slice (some ⟨g,0,none⟩) (n+1) (n+1)] 24 (0,0)):=by rw[h8];exact z0w wa k _ _ _ _ j8.out
 have l9:=(u4.block mb (lt_of_block x2.out) C3).trans x2.out;have z5:Below w.heap.size w wb:=v6.out.trans (u4.below v6.out.size (fun q e=>by rw[e];exact j6));have p9:OwM wb w.heap.size (.slice (some ⟨g,0,none⟩) (n+1) (n+1)) (revZ D) (fun _=>.slice none 0 0):=by rw[h8];exact p6.out.box4 j8.out _ _ _ _
 obtain⟨F,hF⟩:∃ F:Nat->Prop,F=fun b=>b=mb\/b=k:=⟨_,rfl⟩;have d1:RvN F w.heap.size g (n+1) (revQ D 0) wb wb:=by
  have e:(revQ D 0).n=n+1:=by rw[HN.out];rfl
  refine RvN.refl ⟨fun _=>.slice none 0 0,by rw[e];exact p9,fun b hb=>⟨?_,?_,fun i _=>by simp[Value.ownBlock]⟩⟩
  ·rw[hF] at hb
   rcases hb with rfl|rfl
   ·exact lt_of_block l9
   exact lt_of_block w8
  rw[hF] at hb;intro e2;have e3:g=b:=by simpa [Value.ownBlock] using e2
  rcases hb with rfl|rfl
  ·exact B2.1 e3.symm
  exact B2.2 e3.symm
 have A4:F mb:=by rw[hF];exact .inl rfl
 have z4:F k:=by rw[hF];exact .inr rfl
 have m3:=(cells4 l9).1.2.2.2;rw[<- HN.out] at m3;rw[<- h8];clear h8 u4 p6 x2 j8 v6 r0 r1 r2 r3 f0 f1 f2 f3 p9;have b3:=qh d1;clear d1;have C2:=qh A4;clear A4;have b1:=qh z4;clear z4 hF;have A0:=qh w8;clear w8;have D2:=qh l9;clear l9;have l4:=qh z5;clear z5;obtain⟨i0,hi,A6,g6,A8⟩:=z6m v0c;have HI:=qh hi;have y3:=qh A6;have A3:=qh g6;have z9:=qh A8;clear hi A6 g6 A8
 go_wp2_with fail
 clear m3
 go_loopw [29] (fun x0 wr=>∃ q:Nat,q<=n/\x0=.int .i64 (q:Int)/\RvN F w.heap.size g (n+1) (revQ D q) wb wr) (fun x0 _=>n-(intOf x0).toNat)
 case atStart=>exact⟨0,Nat.zero_le _,rfl,b3.out⟩
 obtain⟨q,hq,rfl,h5⟩:=hrel;clear b3;have b4:=qh h5;clear h5;have D9:w.heap.size<=wb.heap.size:=l4.out.size;by_cases j5:q<n
 ·have F4:(q:Int)<(n:Int):=by omega
  have F1:(0:Int)<=(q:Int):=by omega
  have v5:q<D.n:=by have:=HN.out;omega
  have A1:=(HB.out (by have:=HN.out;omega)).1;obtain⟨k1,k2,k3,k4,k5,k6,k7⟩:=HR.out q v5;have d2:=l4.out.trans b4.out.2.2;have t0:=(d2.cell (p:=⟨b,s8+q*2,none⟩) A1).trans k1;have t1:=(d2.cell (p:=⟨b,s8+q*2+1,none⟩) A1).trans k2;clear k1 k2;unfold maxLen at k4;obtain⟨fq,v3⟩:=exq (D.fin q);obtain⟨aq,y0⟩:=exq (A q);obtain⟨nq,e9⟩:=exq (D.na q);obtain⟨f8,z3⟩:=exq (C q);rw[<- v3] at t0;rw[<- y0,<- e9,<- z3] at t1;rw[<- y0,<- e9] at k5;rw[<- e9] at k6 k7;have E7:nq<=30000:=by rw[e9];have h1:=Nat.le_trans (z1t D (show q+1<=D.n by omega)) HV.out.arcs;have h2:z0f D (q+1)=z0f D q+D.na q:=rfl;omega
  have s5:=qh v3;clear v3;have h0:=qh e9;clear e9;clear y0 z3 k3 k4;have C6:=qh k5;clear k5;have C5:=qh k6;clear k6;have D8:=qh k7;clear k7;have d6:(revQ D q).n=n+1:=by rw[(z2r D q).n,HN.out];rfl
  have r5:=x1q HV.out s6.out q (by omega);have y4:=qh r5;clear r5;have j3:=qh d6;clear d6;have F7:w.heap.size<=wr.heap.size:=d2.size;have x9:g<wr.heap.size:=by
   obtain⟨R,h1,_⟩:=b4.out.1;exact(World.ownsRow.lt h1.top g rfl).2
  obtain⟨sb,i6⟩:=exq (wr.heap.size);obtain⟨w5,e8⟩:=exq (wr.alloc (.cells #[.string fq,.slice aq nq f8] 57));have x5:Below wr.heap.size wr w5:=by rw[e8];exact(Below.refl _ wr).alloc nlr _
  have D6:w5.heap.size=wr.heap.size+1:=by rw[e8];simp
  have s4:w5.heap[sb]?=some (.cells #[.string fq,.slice aq nq f8] 57 (0,0)):=by rw[e8,i6];exact heap_alloc_new wr _
  obtain⟨F2,k9⟩:∃ F2:Nat->Prop,F2=fun b=>F b\/b=sb:=⟨_,rfl⟩;have m7:RvS F2 w.heap.size g (n+1) (revQ D q) w5:=(b4.out.1.grown x5 x9).sub (fun b hb=>by
   rw[k9] at hb;exact hb.imp id (fun e=>by rw[e,i6];omega))
  have n9:∀ b,F b->F2 b:=fun b hb=>by rw[k9];exact .inl hb
  have p7:F2 sb:=by rw[k9];exact .inr rfl
  have g5:=b4.out.kept D9 x5;have s1:w5.cell? ⟨sb,1,none⟩=some (.slice aq nq f8):=by simp[World.cell?,s4]
  rw[e8,i6] at s1;have q7:=qh (RvN.refl m7);clear m7;have b6:=qh g5;clear g5 b4 x5 d2;have C7:=qh s4;clear s4;have b2:=qh n9;clear n9;have r6:=qh p7;clear p7 k9;have E5:w.heap.size<=w5.heap.size:=by omega
  go_wp2_with fail
  rw[<- e8,<- i6];clear t0 t1 e8 i6 s1 D6
  go_loopw [37] (fun w0 wr=>∃ d:Nat,d<=nq/\w0=.int .i64 (d:Int)/\RvN F2 w.heap.size g (n+1) (revA D q d (revQ D q)) w5 wr) (fun w0 _=>nq-(intOf w0).toNat)
  case atStart=>exact⟨0,Nat.zero_le _,rfl,q7.out⟩
  obtain⟨d,hd,rfl,h5⟩:=hrel;clear q7;have z:=qh h5;clear h5;have B0:(revA D q d (revQ D q)).n=n+1:=by rw[(z7v D q (Skel.refl _) d).n];exact j3.out
  have j1:=(x2j HV.out s6.out v5 ((z2r D q).kind) y4.out d (by rw[<- h0.out];omega));have a8:=(l4.out.trans b6.out.2.2).trans z.out.2.2;have o2:w.heap.size<=wr.heap.size:=a8.size;have e5:∀ p,(revA D q d (revQ D q)).na p<=100000:=fun p=>Nat.le_trans (j1.na p) (by
   have h1:=Nat.le_trans (z1t D (show q+1<=D.n by omega)) HV.out.arcs;have h2:z0f D (q+1)=z0f D q+D.na q:=rfl;have:=h0.out;omega)
  have W:=(z.out.2.1 k (b2.out k b1.out)).trans ((b6.out.2.1 k b1.out).trans A0.out);have e1:=(z.out.2.1 sb r6.out).trans C7.out;by_cases B3:d<nq
  ·have G0:(d:Int)<(nq:Int):=by omega
   have E9:(0:Int)<=(d:Int):=by omega
   have l1:=(C5.out (by omega)).1;obtain⟨u0,u1,u2,u3⟩:=D8.out d B3;obtain rfl:=C6.out (by omega);have c0:=(a8.cell (p:=⟨BB q,O q+d*4,none⟩) l1).trans u0;have c1:=(a8.cell (p:=⟨BB q,O q+d*4+1,none⟩) l1).trans u1;have c2:=(a8.cell (p:=⟨BB q,O q+d*4+2,none⟩) l1).trans u2;have c3:=(a8.cell (p:=⟨BB q,O q+d*4+3,none⟩) l1).trans u3;clear u0 u1 u2 u3;have d9:=HV.out.arc q d v5 (by rw[<- h0.out];exact B3);obtain⟨T,v4⟩:∃ T:Nat,D.ato q d=(T:Int):=⟨(D.ato q d).toNat,by have:=d9.t0;omega⟩;have g7:T<=n:=by have:=d9.t1;have:=HN.out;omega
   have b7:T<(revA D q d (revQ D q)).n:=by rw[B0];omega
   have B7:=e5 T;rw[v4] at c3;have D3:=qh v4;clear v4 d9;obtain⟨ai,w9⟩:=exq (D.ain q d);obtain⟨ao,d9⟩:=exq (D.aout q d);obtain⟨aw,y1⟩:=exq (D.aw q d);rw[<- w9] at c0;rw[<- d9] at c1;rw[<- y1] at c2;have C0:=qh w9;clear w9;have D5:=qh d9;clear d9;have E4:=qh y1;clear y1;have x9:g<wr.heap.size:=by
    obtain⟨R,h1,_⟩:=z.out.1;exact(World.ownsRow.lt h1.top g rfl).2
   obtain⟨ab,j9⟩:=exq (wr.heap.size);obtain⟨w6,g4⟩:=exq (wr.alloc (.cells #[.int .i64 ai,.int .i64 ao,.string aw,.int .i64 (q:Int)] 59));have j7:Below wr.heap.size wr w6:=by rw[g4];exact(Below.refl _ wr).alloc nlr _
   have E0:w6.heap.size=wr.heap.size+1:=by rw[g4];simp
   have m5:w6.heap[ab]?=some (.cells #[.int .i64 ai,.int .i64 ao,.string aw,.int .i64 (q:Int)] 59 (0,0)):=by rw[g4,j9];exact heap_alloc_new wr _
   have n3:=(j7.block _ (lt_of_block W)).trans W;obtain⟨F3,j2⟩:∃ F3:Nat->Prop,F3=fun b=>F2 b\/b=ab:=⟨_,rfl⟩;have j0:RvS F3 w.heap.size g (n+1) (revA D q d (revQ D q)) w6:=(z.out.1.grown j7 x9).sub (fun b hb=>by
    rw[j2] at hb;exact hb.imp id (fun e=>by rw[e,j9];omega))
   have n5:∀ b,F2 b->F3 b:=fun b hb=>by rw[j2];exact .inl hb
   have r4:F3 ab:=by rw[j2];exact .inr rfl
   have g3:=z.out.kept E5 j7;have o7:w.heap.size<=w6.heap.size:=by omega
   have c9:∀ b,F3 b->b<w6.heap.size:=j0.lt;have x6:=qh j0;clear j0;have s3:=qh g3;clear g3 z;have z8:=qh m5;clear m5;have o8:=qh n3;clear n3 W e1;have q9:=qh n5;clear n5;have y8:=qh r4;clear r4 j2;have v2:=qh c9;clear c9;clear j7 E0 a8 j1 e5;obtain⟨R,Y,I⟩:=x6.out;obtain⟨ra,rc,d7,_,_⟩:=z1e (Y.row T b7);obtain⟨h,u⟩:=exq (w6.drew);have a3:Fr (fun _=>False) w6 h:=by rw[u];exact(Fr.refl _ _).drew
   have j:Below w6.heap.size w6 h:=a3.below nlr (fun _ e=>e.elim);have a9:OwM h w.heap.size (.slice (some ⟨g,0,none⟩) (revA D q d (revQ D q)).n (n+1)) (revA D q d (revQ D q)) R:=Y.kept (z0b j none) (by simp);have b0:∀ b,F3 b->Fre h (.slice (some ⟨g,0,none⟩) (revA D q d (revQ D q)).n (n+1)) R (revA D q d (revQ D q)).n b:=fun b hb=>⟨Nat.lt_of_lt_of_le (I b hb).1 j.size,(I b hb).2⟩;have E:=(a3.block _ (lt_of_block o8.out) (fun e=>e)).trans o8.out;have l:=(a3.block _ (lt_of_block z8.out) (fun e=>e)).trans z8.out;have x8:w.heap.size<=h.heap.size:=Nat.le_trans o7 j.size;have h6:h.cell? ⟨g,T*2+1,none⟩=some (.slice ra ((revA D q d (revQ D q)).na T) rc):=by rw[a9.arcs_cell b7,d7]
   have c:h.cell? ⟨k,3,none⟩=some (.slice (some ⟨g,0,none⟩) (n+1) (n+1))/\h.cell? ⟨g,T*2+1,none⟩=some (.slice ra ((revA D q d (revQ D q)).na T) rc)/\h.cell? ⟨ab,0,none⟩=some (.int .i64 ai)/\h.cell? ⟨ab,1,none⟩=some (.int .i64 ao)/\h.cell? ⟨ab,2,none⟩=some (.string aw)/\h.cell? ⟨ab,3,none⟩=some (.int .i64 (q:Int)):=⟨(cells4 E).1.2.2.2,h6,by simp[World.cell?,l],by simp[World.cell?,l],by simp[World.cell?,l],by simp[World.cell?,l]⟩;have C8:(T:Int)<(n:Int)+1:=by have:=g7;omega
   have B8:(0:Int)<=(T:Int):=by omega
   have e0:=qh a9;clear a9 Y;have J:=qh b0;clear b0 I;have b5:=qh d7;clear d7;have L:=qh E;clear E;have S:=qh l;clear l h6;have d0:=qh j;clear j a3
   go_wp2_with fail
   refine z0e (fun wk=>wk.cell? ⟨k,3,none⟩=some (.slice (some ⟨g,0,none⟩) (n+1) (n+1))/\wk.cell? ⟨g,T*2+1,none⟩=some (.slice ra ((revA D q d (revQ D q)).na T) rc)/\wk.cell? ⟨ab,0,none⟩=some (.int .i64 ai)/\wk.cell? ⟨ab,1,none⟩=some (.int .i64 ao)/\wk.cell? ⟨ab,2,none⟩=some (.string aw)/\wk.cell? ⟨ab,3,none⟩=some (.int .i64 (q:Int))) 14 (by kernel_rfl) ?_;rw[<- g4,<- j9];clear c0 c1 c2 c3 g4 j9;rw[<- u];clear u;refine z0c.tm 0 c ?_;refine z0c.tm 1 c ?_;refine z0c.tm 2 c ?_;refine z0c.tm 3 c ?_;refine z0c.tm 4 c ?_;refine z0c.tm 5 c ?_;refine z0c.tm 6 c ?_;refine z0c.tm 7 c ?_;refine z0c.tm 8 c ?_;refine z0c.tm 9 c ?_
   try simp only[Act.put,tryL]
   refine z0c.on 10 fun K N=>?_;go_simp;obtain⟨wy,Q⟩:=exq (h.alloc (.cells #[.int .i64 (ai),.int .i64 (ao),.string (aw),.int .i64 (q:Int)] 59));have b8:Below h.heap.size h wy:=by rw[Q];exact(Below.refl _ h).alloc nlr _
   have d5:wy.heap[h.heap.size]?=some (.cells #[.int .i64 (ai),.int .i64 (ao),.string (aw),.int .i64 (q:Int)] 59 (0,0)):=by rw[Q];exact heap_alloc_new h _
   have t7:wy.heap.size=h.heap.size+1:=by rw[Q];simp
   have a6:=(b8.block _ (lt_of_block L.out)).trans L.out;have m:=(b8.block _ (lt_of_block S.out)).trans S.out;have U:wy.cell? ⟨k,3,none⟩=some (.slice (some ⟨g,0,none⟩) (n+1) (n+1))/\wy.cell? ⟨g,T*2+1,none⟩=some (.slice ra ((revA D q d (revQ D q)).na T) rc)/\wy.cell? ⟨ab,0,none⟩=some (.int .i64 ai)/\wy.cell? ⟨ab,1,none⟩=some (.int .i64 ao)/\wy.cell? ⟨ab,2,none⟩=some (.string aw)/\wy.cell? ⟨ab,3,none⟩=some (.int .i64 (q:Int)):=⟨(cells4 a6).1.2.2.2,b8.cell (World.ownsRow.lt e0.out.top g rfl).2 |>.trans c.2.1,by simp[World.cell?,m],by simp[World.cell?,m],by simp[World.cell?,m],by simp[World.cell?,m]⟩
   have a2:wy.ownsRow w.heap.size 59 4 (.slice ra ((revA D q d (revQ D q)).na T) rc) ((revA D q d (revQ D q)).na T) (cat (arc4 (revA D q d (revQ D q)) T) ((revA D q d (revQ D q)).na T)):=by rw[Q,<- b5.out];exact World.ownsRow.alloc (e0.out.row T b7) _
   have t8:w.heap.size<=wy.heap.size:=by omega
   obtain⟨H,hH⟩:=exq (h.heap.size);rw[<- hH] at d5 t7;rw[<- Q,<- hH];have i8:=qh Q;clear Q;have C4:=qh hH;clear hH;have y2:=qh d5;clear d5;have A9:=qh a6;clear a6;have v8:=qh m;clear m;clear b8;refine N.out _ _ (.inr U) ?_;clear N K c
   try simp only[Act.put,tryL]
   refine z0c.on 11 fun K N=>?_;refine wp_append_lies _ (.tmp 53) (.tmp 55) 55 rfl w.heap.size 59 i0 (.agg #[.int .i64 0,.int .i64 0,.string ⟨#[]⟩,.int .i64 0]) 4 40 underlying55 HI.out y3.out A3.out z9.out rfl (by omega) (.slice ra ((revA D q d (revQ D q)).na T) rc) ((revA D q d (revQ D q)).na T) _ (by simp[Act.eval]) a2 ⟨H,0,none⟩ 1 1 [.int .i64 (ai),.int .i64 (ao),.string (aw),.int .i64 (q:Int)] (by simp[Act.eval]) rfl (y1c (cs:=#[.int .i64 (ai),.int .i64 (ao),.string (aw),.int .i64 (q:Int)]) y2.out) y7m (by omega) (by unfold maxLen;omega) (by omega) t8 _ rfl ?_;intro go cq we a4 a7 i4 j5;have i9:=x9p (o:=.cells #[.int .i64 (ai),.int .i64 (ao),.string (aw),.int .i64 (q:Int)] 59) x8 e0.out b7 a4 (by rw[<- i8.out,b5.out];exact a7) (by rw[<- i8.out,b5.out];exact i4.imp id (fun e=>Nat.le_of_eq e.symm));obtain⟨f9,⟨d8,u6⟩,a5,i7⟩:=i9;have X:=(a5 k (J.out k (q9.out k (b2.out k b1.out)))).1.trans L.out;have G:=(a5 ab (J.out ab y8.out)).1.trans S.out;rw[b5.out] at d8;have b9:we.cell? ⟨k,3,none⟩=some (.slice (some ⟨g,0,none⟩) (n+1) (n+1))/\we.cell? ⟨g,T*2+1,none⟩=some (.slice ra ((revA D q d (revQ D q)).na T) rc)/\we.cell? ⟨ab,0,none⟩=some (.int .i64 ai)/\we.cell? ⟨ab,1,none⟩=some (.int .i64 ao)/\we.cell? ⟨ab,2,none⟩=some (.string aw)/\we.cell? ⟨ab,3,none⟩=some (.int .i64 (q:Int)):=⟨(cells4 X).1.2.2.2,d8,by simp[World.cell?,G],by simp[World.cell?,G],by simp[World.cell?,G],by simp[World.cell?,G]⟩;have s:RvN F3 w.heap.size g (n+1) ((revA D q d (revQ D q)).arc T (ai) (ao) (aw) (q:Int)) w6 (we.setCell ⟨g,T*2+1,none⟩ (.slice (some ⟨go,0,none⟩) ((revA D q d (revQ D q)).na T+1) cq)) :=
    ⟨⟨_,f9,fun b hb=>(a5 b (J.out b hb)).2.2⟩,fun b hb=>(a5 b (J.out b hb)).2.1.trans (d0.out.block b (v2.out b hb)),(d0.out.mono o7).trans i7⟩
   have d3:=qh s;clear s f9 a5 i7 X G a4 a7 i4 j5 a2;refine N.out _ _ (.inr b9) ?_;clear N K U
   try simp only[Act.put,tryL]
   refine z0c.tm 12 b9 ?_;refine z0c.tm 13 b9 ?_
   try simp only[Act.put,tryL]
   refine z0c.on 14 fun K N=>?_;go_simp;refine N.out _ _ (.inl rfl) (z0c.dn ?_);clear N K b9 d8 u6;obtain⟨wf,Z⟩:=exq (we.setCell ⟨g,T*2+1,none⟩ (.slice (some ⟨go,0,none⟩) ((revA D q d (revQ D q)).na T+1) cq));have s:=d3.out;rw[<- Z] at s;rw[<- Z];clear Z;have c8:RvN F2 w.heap.size g (n+1) (revA D q (d+1) (revQ D q)) w5 wf:=by
    have e:revA D q (d+1) (revQ D q)=(revA D q d (revQ D q)).arc T ai ao aw (q:Int):=by
     show (revA D q d (revQ D q)).arc (D.ato q d).toNat (D.ain q d) (D.aout q d) (D.aw q d) (q:Int)=_;rw[D3.out,<- C0.out,<- D5.out,<- E4.out];rfl
    rw[e];exact s3.out.trans (s.sub q9.out)
   have h4:=qh c8;clear c8 s d3;go_wp2;go_roundw
   case rel=>exact⟨d+1,by omega,by go_num,h4.out⟩
   simp[intOf];omega
  have E6:nq=d:=by omega
  subst E6;have A2:¬ ((nq:Int)<(nq:Int)):=by omega
  have s0:wr.cell? ⟨sb,0,none⟩=some (.string fq):=by simp[World.cell?,e1]
  have r9:=qh W;clear W;have m8:=qh e1;clear e1;have d1:RvN F w.heap.size g (n+1) (revA D q nq (revQ D q)) wb wr:=⟨z.out.1.sub b2.out,fun b hb=>(z.out.2.1 b (b2.out b hb)).trans (b6.out.2.1 b hb),b6.out.2.2.trans z.out.2.2⟩;have b3:=qh d1;clear d1 a8 j1;by_cases e7:fq=⟨#[]⟩
  ·have g8:revQ D (q+1)=revA D q nq (revQ D q):=by
    show revF D q (revA D q (D.na q) (revQ D q))=_;unfold revF;rw[if_pos (by rw[<- s5.out];exact e7),h0.out]
   have hB:=b3.out;rw[<- g8] at hB;have u7:=qh hB;clear hB g8 b3 z;subst e7;go_wp2;go_roundw
   case rel=>exact⟨q+1,by omega,by go_num,u7.out⟩
   simp[intOf];omega
  have F8:(fq.toList==[])=false:=by
   cases hE:(fq.toList==[])
   ·rfl
   exact absurd (z6q hE) e7
  have g8:revQ D (q+1)=(revA D q nq (revQ D q)).arc n 0 0 fq (q:Int):=by
   show revF D q (revA D q (D.na q) (revQ D q))=_;unfold revF;rw[if_neg (by rw[<- s5.out];exact e7),h0.out,s5.out,HN.out]
  have b7:n<(revA D q nq (revQ D q)).n:=by rw[B0];omega
  have g7:n<=n:=nlr;have B7:=e5 n;have c9:∀ b,F2 b->b<wr.heap.size:=z.out.1.lt;have x6:=qh z.out.1;have D7:=qh g8;clear g8;have v2:=qh c9;clear c9 e5;have F9:=qh e7;clear e7;obtain⟨R,Y,I⟩:=x6.out;obtain⟨ra,rc,d7,_,_⟩:=z1e (Y.row n b7);obtain⟨h,u⟩:=exq (wr.drew);have a3:Fr (fun _=>False) wr h:=by rw[u];exact(Fr.refl _ _).drew
  have j:Below wr.heap.size wr h:=a3.below nlr (fun _ e=>e.elim);have a9:OwM h w.heap.size (.slice (some ⟨g,0,none⟩) (revA D q nq (revQ D q)).n (n+1)) (revA D q nq (revQ D q)) R:=Y.kept (z0b j none) (by simp);have b0:∀ b,F2 b->Fre h (.slice (some ⟨g,0,none⟩) (revA D q nq (revQ D q)).n (n+1)) R (revA D q nq (revQ D q)).n b:=fun b hb=>⟨Nat.lt_of_lt_of_le (I b hb).1 j.size,(I b hb).2⟩;have E:=(a3.block _ (lt_of_block r9.out) (fun e=>e)).trans r9.out;have l:=(a3.block _ (lt_of_block m8.out) (fun e=>e)).trans m8.out;have x8:w.heap.size<=h.heap.size:=Nat.le_trans o2 j.size;have h6:h.cell? ⟨g,n*2+1,none⟩=some (.slice ra ((revA D q nq (revQ D q)).na n) rc):=by rw[a9.arcs_cell b7,d7]
  have c:h.cell? ⟨k,3,none⟩=some (.slice (some ⟨g,0,none⟩) (n+1) (n+1))/\h.cell? ⟨g,n*2+1,none⟩=some (.slice ra ((revA D q nq (revQ D q)).na n) rc)/\h.cell? ⟨sb,0,none⟩=some (.string fq):=⟨(cells4 E).1.2.2.2,h6,by simp[World.cell?,l]⟩;have C8:(n:Int)<(n:Int)+1:=by have:=g7;omega
  have B8:(0:Int)<=(n:Int):=by omega
  have e0:=qh a9;clear a9 Y;have J:=qh b0;clear b0 I;have b5:=qh d7;clear d7;have L:=qh E;clear E;have S:=qh l;clear l h6;have d0:=qh j;clear j a3
  go_wp2_with fail
  refine z0e (fun wk=>wk.cell? ⟨k,3,none⟩=some (.slice (some ⟨g,0,none⟩) (n+1) (n+1))/\wk.cell? ⟨g,n*2+1,none⟩=some (.slice ra ((revA D q nq (revQ D q)).na n) rc)/\wk.cell? ⟨sb,0,none⟩=some (.string fq)) 17 (by kernel_rfl) ?_;rw[<- u];clear u s0;refine z0c.tm 0 c ?_;refine z0c.tm 1 c ?_;refine z0c.tm 2 c ?_;refine z0c.tm 3 c ?_;refine z0c.tm 4 c ?_;refine z0c.tm 5 c ?_;refine z0c.tm 6 c ?_;refine z0c.tm 7 c ?_;refine z0c.tm 8 c ?_;refine z0c.tm 9 c ?_;refine z0c.tm 10 c ?_;refine z0c.tm 11 c ?_;refine z0c.tm 12 c ?_
  try simp only[Act.put,tryL]
  refine z0c.on 13 fun K N=>?_;go_simp;obtain⟨wy,Q⟩:=exq (h.alloc (.cells #[.int .i64 (0),.int .i64 (0),.string (fq),.int .i64 (q:Int)] 59));have b8:Below h.heap.size h wy:=by rw[Q];exact(Below.refl _ h).alloc nlr _
  have d5:wy.heap[h.heap.size]?=some (.cells #[.int .i64 (0),.int .i64 (0),.string (fq),.int .i64 (q:Int)] 59 (0,0)):=by rw[Q];exact heap_alloc_new h _
  have t7:wy.heap.size=h.heap.size+1:=by rw[Q];simp
  have a6:=(b8.block _ (lt_of_block L.out)).trans L.out;have m:=(b8.block _ (lt_of_block S.out)).trans S.out;have U:wy.cell? ⟨k,3,none⟩=some (.slice (some ⟨g,0,none⟩) (n+1) (n+1))/\wy.cell? ⟨g,n*2+1,none⟩=some (.slice ra ((revA D q nq (revQ D q)).na n) rc)/\wy.cell? ⟨sb,0,none⟩=some (.string fq):=⟨(cells4 a6).1.2.2.2,b8.cell (World.ownsRow.lt e0.out.top g rfl).2 |>.trans c.2.1,by simp[World.cell?,m]⟩
  have a2:wy.ownsRow w.heap.size 59 4 (.slice ra ((revA D q nq (revQ D q)).na n) rc) ((revA D q nq (revQ D q)).na n) (cat (arc4 (revA D q nq (revQ D q)) n) ((revA D q nq (revQ D q)).na n)):=by rw[Q,<- b5.out];exact World.ownsRow.alloc (e0.out.row n b7) _
  have t8:w.heap.size<=wy.heap.size:=by omega
  obtain⟨H,hH⟩:=exq (h.heap.size);rw[<- hH] at d5 t7;rw[<- Q,<- hH];have i8:=qh Q;clear Q;have C4:=qh hH;clear hH;have y2:=qh d5;clear d5;have A9:=qh a6;clear a6;have v8:=qh m;clear m;clear b8;refine N.out _ _ (.inr U) ?_;clear N K c
  try simp only[Act.put,tryL]
  refine z0c.on 14 fun K N=>?_;refine wp_append_lies _ (.tmp 71) (.tmp 76) 55 rfl w.heap.size 59 i0 (.agg #[.int .i64 0,.int .i64 0,.string ⟨#[]⟩,.int .i64 0]) 4 40 underlying55 HI.out y3.out A3.out z9.out rfl (by omega) (.slice ra ((revA D q nq (revQ D q)).na n) rc) ((revA D q nq (revQ D q)).na n) _ (by simp[Act.eval]) a2 ⟨H,0,none⟩ 1 1 [.int .i64 (0),.int .i64 (0),.string (fq),.int .i64 (q:Int)] (by simp[Act.eval]) rfl (y1c (cs:=#[.int .i64 (0),.int .i64 (0),.string (fq),.int .i64 (q:Int)]) y2.out) y7m (by omega) (by unfold maxLen;omega) (by omega) t8 _ rfl ?_;intro go cq we a4 a7 i4 j5;have i9:=x9p (o:=.cells #[.int .i64 (0),.int .i64 (0),.string (fq),.int .i64 (q:Int)] 59) x8 e0.out b7 a4 (by rw[<- i8.out,b5.out];exact a7) (by rw[<- i8.out,b5.out];exact i4.imp id (fun e=>Nat.le_of_eq e.symm));obtain⟨f9,⟨d8,u6⟩,a5,i7⟩:=i9;have X:=(a5 k (J.out k (b2.out k b1.out))).1.trans L.out;have G:=(a5 sb (J.out sb r6.out)).1.trans S.out;rw[b5.out] at d8;have b9:we.cell? ⟨k,3,none⟩=some (.slice (some ⟨g,0,none⟩) (n+1) (n+1))/\we.cell? ⟨g,n*2+1,none⟩=some (.slice ra ((revA D q nq (revQ D q)).na n) rc)/\we.cell? ⟨sb,0,none⟩=some (.string fq):=⟨(cells4 X).1.2.2.2,d8,by simp[World.cell?,G]⟩;have s:RvN F2 w.heap.size g (n+1) ((revA D q nq (revQ D q)).arc n (0) (0) (fq) (q:Int)) wr (we.setCell ⟨g,n*2+1,none⟩ (.slice (some ⟨go,0,none⟩) ((revA D q nq (revQ D q)).na n+1) cq)) :=
   ⟨⟨_,f9,fun b hb=>(a5 b (J.out b hb)).2.2⟩,fun b hb=>(a5 b (J.out b hb)).2.1.trans (d0.out.block b (v2.out b hb)),(d0.out.mono o2).trans i7⟩
  have d3:=qh s;clear s f9 a5 i7 X G a4 a7 i4 j5 a2;refine N.out _ _ (.inr b9) ?_;clear N K U
  try simp only[Act.put,tryL]
  refine z0c.tm 15 b9 ?_;refine z0c.tm 16 b9 ?_
  try simp only[Act.put,tryL]
  refine z0c.on 17 fun K N=>?_;go_simp;refine N.out _ _ (.inl rfl) (z0c.dn ?_);clear N K b9 d8 u6;obtain⟨wf,Z⟩:=exq (we.setCell ⟨g,n*2+1,none⟩ (.slice (some ⟨go,0,none⟩) ((revA D q nq (revQ D q)).na n+1) cq));have s:=d3.out;rw[<- Z,<- D7.out] at s;rw[<- Z];clear Z;have c8:RvN F w.heap.size g (n+1) (revQ D (q+1)) wb wf:=b3.out.trans (s.sub b2.out);have h4:=qh c8;clear c8 s d3;go_wp2;go_roundw
  case rel=>exact⟨q+1,by omega,by go_num,h4.out⟩
  simp[intOf];omega
 have C9:n=q:=by omega
 subst C9;have A2:¬ ((n:Int)<(n:Int)):=by omega
 have W:=(b4.out.2.1 k b1.out).trans A0.out;have f7:=(b4.out.2.1 mb C2.out).trans D2.out;have d2:=l4.out.trans b4.out.2.2;obtain⟨st,x1⟩:∃ st:Nat,D.start=(st:Int):=⟨D.start.toNat,by have:=HV.out.s0;omega⟩;have o9:D.start.toNat=st:=by omega
 have E8:st<n:=by have:=HV.out.s1;have:=HN.out;omega
 obtain⟨h,u⟩:=exq (wr.drew);have a3:Fr (fun _=>False) wr h:=by rw[u];exact(Fr.refl _ _).drew
 have j:Below wr.heap.size wr h:=a3.below nlr (fun _ e=>e.elim);have n7:=b4.out.1.kept j;have E:=(j.block _ (lt_of_block W)).trans W;have c7:=(j.block _ (lt_of_block f7)).trans f7;have h7:=d2.trans (j.mono d2.size);rw[x1] at c7;have c:h.cell? ⟨k,3,none⟩=some (.slice (some ⟨g,0,none⟩) (n+1) (n+1))/\h.cell? ⟨mb,0,none⟩=some (.int .i64 D.kind)/\h.cell? ⟨mb,1,none⟩=some (.int .i64 (st:Int)):=⟨(cells4 E).1.2.2.2,(cells4 c7).1.1,(cells4 c7).1.2.1⟩;have l7:(st:Int)<(n:Int)+1:=by omega
 have F0:(0:Int)<=(st:Int):=by omega
 have z1:=qh n7;clear n7;have L:=qh E;clear E W;have r8:=qh c7;clear c7 f7;have d4:=qh h7;clear h7 d2 j a3;have F6:=qh x1;clear x1;have B6:=qh o9;clear o9
 go_wp2_with fail
 refine z0e (fun wk=>wk.cell? ⟨k,3,none⟩=some (.slice (some ⟨g,0,none⟩) (n+1) (n+1))/\wk.cell? ⟨mb,0,none⟩=some (.int .i64 D.kind)/\wk.cell? ⟨mb,1,none⟩=some (.int .i64 (st:Int))) 9 (by kernel_rfl) ?_;rw[<- u];clear u;refine z0c.tm 0 c ?_;refine z0c.tm 1 c ?_;refine z0c.tm 2 c ?_;refine z0c.tm 3 c ?_;refine z0c.tm 4 c ?_;refine z0c.tm 5 c ?_
 try simp only[Act.put,tryL]
 refine z0c.on 6 fun K N=>?_;go_simp;refine(z6s D.kind h).mono ?_;rintro r we ⟨rfl,g9⟩;have A7:=z1.out.kept g9;have X:=(g9.block _ (lt_of_block L.out)).trans L.out;have g2:=(g9.block _ (lt_of_block r8.out)).trans r8.out;have p8:=d4.out.trans (g9.mono d4.out.size);have U:we.cell? ⟨k,3,none⟩=some (.slice (some ⟨g,0,none⟩) (n+1) (n+1))/\we.cell? ⟨mb,0,none⟩=some (.int .i64 D.kind)/\we.cell? ⟨mb,1,none⟩=some (.int .i64 (st:Int)):=⟨(cells4 X).1.2.2.2,(cells4 g2).1.1,(cells4 g2).1.2.1⟩;obtain⟨R,Y,I⟩:=A7;have d6:(revQ D n).n=n+1:=by rw[(z2r D n).n,HN.out];rfl
 have D1:we.cell? ⟨g,st*2,none⟩=some (.string ((revQ D n).fin st)):=Y.fin_cell (by rw[d6];omega);have E1:=z5v Y.top (st*2);have a1:=Y.setFin (q:=st) (by rw[d6];omega) (oneF D.kind);have o3:k≠g:=fun e=>(I k b1.out).2.1 (by rw[e];rfl);have s7:=World.ownsRow.lt Y.top g rfl;refine N.out _ _ (.inr U) ?_;clear N K c g9;obtain⟨on,l8⟩:=exq (oneF D.kind);rw[<- l8] at a1;rw[<- l8];have D4:=qh l8;clear l8;have r7:=qh a1;clear a1 Y;have B9:=qh X;clear X;have B4:=qh p8;clear p8 g2;have j3:=qh d6;clear d6;have J:=qh I;clear I
 try simp only[Act.put,tryL]
 refine z0c.tm 7 U ?_;refine z0c.tm 8 U ?_
 try simp only[Act.put,tryL]
 refine z0c.on 9 fun K N=>?_;go_simp;refine N.out _ _ (.inl rfl) (z0c.dn ?_);clear N K U D1 E1;obtain⟨wf,Z⟩:=exq (we.setCell ⟨g,st*2,none⟩ (.string on));have i5:(revQ D n).setFin st on=revD D:=by
  unfold revD;rw[B6.out,<- HN.out,<- D4.out]
 have a1:=r7.out;rw[<- Z,i5] at a1;have g1:wf.heap[k]?=some (.cells #[.int .i64 D.kind,.int .i64 (n:Int),.string D.lead,.slice (some ⟨g,0,none⟩) (n+1) (n+1)] 24 (0,0)):=by rw[Z,z0g o3];exact B9.out
 have h9:Below w.heap.size w wf:=by rw[Z];exact B4.out.setCell (p:=⟨g,st*2,none⟩) s7.1 _
 rw[<- Z];clear Z i5 s7 o3;have o6:(revD D).kind=D.kind:=(z2r D D.n).kind;have o5:(revD D).start=(n:Int):=by rw[HN.out];exact(z2r D D.n).start
 have n6:(revD D).lead=D.lead:=(z2r D D.n).lead;have m9:Ma none wf (.agg #[.int .i64 D.kind,.int .i64 (n:Int),.string D.lead,.slice (some ⟨g,0,none⟩) (n+1) (n+1)]) (revD D):=by
  refine⟨.slice (some ⟨g,0,none⟩) (n+1) (n+1),by rw[o6,o5,n6],?_⟩;have h1:=a1.sts;rw[show (revQ D n).n=n+1 from j3.out] at h1;exact h1
 have y6:=qh (z2d wf m9 (x8u HV.out s6.out) (HT.out.below h9 nlr));obtain⟨⟨r0,r1,r2,r3⟩,_⟩:=cells4 g1;have i2:OwM wf w.heap.size (.slice (some ⟨g,0,none⟩) (n+1) (n+1)) (revD D) R:=by
  have h1:=a1;rw[show (revQ D n).n=n+1 from j3.out] at h1;exact h1
 have x7:=qh i2;clear i2 a1 r7;have o4:=qh g1;clear g1;have h3:=qh h9;clear h9 m9 o6 o5 n6
 go_wp2_with fail
 clear r0 r1 r2 r3;refine y6.out.mono ?_;rintro r wg ⟨j4,hr⟩;have i3:=(j4.block _ (lt_of_block o4.out)).trans o4.out;have w7:=qh (x7.out.kept (z0b j4 none) (by simp));have B5:=qh (h3.out.trans (j4.mono h3.out.size));clear j4 y6 h3;obtain⟨⟨r0,r1,r2,r3⟩,rz⟩:=cells4 i3;have f0:=rz 0;have f1:=rz 1;have f2:=rz 2;have f3:=rz 3;clear rz;have f5:=qh i3;clear i3
 rcases hr with ⟨hq,rfl⟩|⟨hq,rfl⟩
 ·have HQ:=qh hq;clear hq;have u7:=qh (w7.out.box4 f5.out (.int .i64 D.kind) (.int .i64 (n:Int)) (.string D.lead) (.slice (some ⟨g,0,none⟩) (n+1) (n+1)))
  go_wp2_with fail
  refine bodyPost_ret (z0j rfl _ (b:=k) rfl rfl (z0w wg k _ _ _ _ f5.out)) rfl ⟨z0d B5.out j6 _ _ _ _,.inl ⟨HV.out,HQ.out,.slice (some ⟨g,0,none⟩) (n+1) (n+1),R,?_,u7.out⟩⟩;rw[<- HN.out];rfl
 have HQ:=qh hq;clear hq
 go_wp2_with fail
 exact bodyPost_ret (z0j rfl _ (b:=k) rfl rfl (z0w wg k _ _ _ _ f5.out)) rfl ⟨z0d B5.out j6 _ _ _ _,.inr (.inl ⟨HV.out,HQ.out,rfl⟩)⟩
end
section
open Go.RowKit Go.Deep
theorem u1n {A B H n:Nat} {s u:Nat->Int} (w:World) (h:R2P A B H n s u w) (i o:Int) (F:0<=i) (D:i<=500) (k0:0<=o) (C:o<=500) :
  Calls prog 71 #[.int .i64 i,.int .i64 o,.pointer (some ⟨A,0,none⟩)] w (fun r w'=>r=.returned (.tuple #[.int .i64 (mapF n s u i),.int .i64 (mapF n s u o)])/\Below w.heap.size w w'):=by
 obtain⟨p,m⟩:=exq (w.drew);have hf:Fr (fun _=>False) w p:=by rw[m];exact(Fr.refl _ _).drew
 have z:=h.kept hf (fun e=>e) (fun e=>e) (fun e=>e);have c:p.cell? ⟨A,0,none⟩=some (.func (.func 70) #[] #[.pointer (some ⟨B,0,none⟩)]):=by simp[World.cell?,z.1]
 have l:=qh (x8e p z.2 i F D);have k:=qh (x8e p z.2 o k0 C);have J:=qh (hf.below nlr (fun _ e=>e.elim));clear hf z h F D k0 C;obtain⟨G,j⟩:=exq (mapF n s u i);obtain⟨E,g⟩:=exq (mapF n s u o);rw[<- j,<- g];rw[<- j] at l;rw[<- g] at k;clear j g
 go_enter func71,ntmps71
 go_wp2_with fail
 refine z0e (fun I=>I.cell? ⟨A,0,none⟩=some (.func (.func 70) #[] #[.pointer (some ⟨B,0,none⟩)])) 7 (by kernel_rfl) ?_;rw[<- m];clear m;refine z0c.tm 0 c ?_;refine z0c.tm 1 c ?_;refine z0c.tm 3 c ?_;refine z0c.tm 4 c ?_
 try simp only[Act.put,tryL]
 refine z0c.on 2 fun K d=>?_;go_simp;refine l.out.mono ?_;rintro r N ⟨rfl,rfl⟩;refine d.out _ _ (.inr c) ?_;clear d K l
 try simp only[Act.put,tryL]
 refine z0c.on 5 fun K d=>?_;go_simp;refine k.out.mono ?_;rintro r L ⟨rfl,rfl⟩;refine d.out _ _ (.inr c) ?_;clear d K k
 try simp only[Act.put,tryL]
 refine z0c.on 6 fun K d=>?_;go_simp;refine d.out _ _ (.inr c) ?_;clear d K
 try simp only[Act.put,tryL]
 refine z0c.on 7 fun K d=>?_;go_simp;refine d.out _ _ (.inl rfl) (z0c.dn ?_);clear d K;go_wp2;go_ret2;exact⟨rfl,J.out⟩
theorem u1c (j m l n:Nat) (d g:Nat->Int):SymF 71 #[.pointer (some ⟨j,0,none⟩)] (fun i o=>(mapF n d g i,mapF n d g o)) (R2P j m l n d g) :=
 ⟨v7n,fun w h i o p s u k=>by
  rw[show ∀ a b c:Value,(#[a,b]++#[c]:Array Value)=#[a,b,c] from fun _ _ _=>rfl];exact u1n w h i o p s u k⟩
end
section
open Go.RowKit Go.Deep
structure RnI (w0 wr:World) (mb rb ob pb n q:Nat) (mc:Array Value) (pi po:Nat->Int):Prop where
 kb:wr.heap[mb]?=some (.cells mc 24 (0,0))
 kr:wr.heap[rb]?=some (.cells #[.int .i64 0,.int .i64 0,.string ⟨#[]⟩,.slice none 0 0] 24 (0,0))
 rp:R1P ob pb q pi po wr
 be:Below w0.heap.size w0 wr
 lr:w0.heap.size<=rb
 lo:w0.heap.size<=ob
 lp:w0.heap.size<=pb
theorem RnI.new {i w m:World} {c rb j g n q:Nat} {l:Array Value} {d k:Nat->Int} (h:RnI i w c rb j g n q l d k) (hf:Fr (fun _=>False) w m):RnI i m c rb j g n q l d k :=
 ⟨(hf.block c (lt_of_block h.kb) (fun e=>e)).trans h.kb,(hf.block rb (lt_of_block h.kr) (fun e=>e)).trans h.kr,h.rp.kept hf (fun e=>e) (fun e=>e),h.be.trans (hf.below h.be.size (fun _ e=>e.elim)),h.lr,h.lo,h.lp⟩
theorem y1h {D:MD} {mv lv:Value} {n:Nat} {m u:Nat->Int} (w:World) (hM:Ma none w mv D) (e9:MSz D) (hL:PrS none w lv n m u) (hn:n<=1000) (ht:Tab w) :
  Calls prog 32 #[mv,lv] w (MkE (VM D/\RenOk n m u) (D.ren (mapF n m u)) 1 w):=by
 obtain⟨sv,rfl,hS⟩:=hM;obtain⟨a,cp,_,_,_,_,_,_,e3,_⟩:=hS.open;subst e3;obtain⟨al,cl,bl,ol,j3,g4,j9,j2,h4,a2⟩:=hL.open;subst j3;obtain⟨w1,Q⟩:=exq (w.alloc (.cells #[.int .i64 D.kind,.int .i64 D.start,.string D.lead,.slice a D.n cp] 24));obtain⟨w2,U⟩:=exq (w1.alloc (.cells #[.int .i64 0,.int .i64 0,.string ⟨#[]⟩,.slice none 0 0] 24));have i5:w1.heap.size=w.heap.size+1:=by rw[Q];simp
 have h3:Fr (fun _=>False) w w1:=by rw[Q];exact Fr.alloc _ _
 have d9:Fr (fun _=>False) w1 w2:=by rw[U];exact Fr.alloc _ _
 obtain⟨mb,b0⟩:=exq (w.heap.size);obtain⟨B,e8⟩:=exq (w.heap.size+1);obtain⟨mc,f5⟩:∃ mc:Array Value,mc=#[.int .i64 D.kind,.int .i64 D.start,.string D.lead,.slice a D.n cp]:=⟨_,rfl⟩;have e7:w1.heap[mb]?=some (.cells #[.int .i64 D.kind,.int .i64 D.start,.string D.lead,.slice a D.n cp] 24 (0,0)):=by rw[Q,b0];exact heap_alloc_new w _
 have d0:w2.heap[mb]?=some (.cells #[.int .i64 D.kind,.int .i64 D.start,.string D.lead,.slice a D.n cp] 24 (0,0)):=(d9.block _ (lt_of_block e7) (fun e=>e)).trans e7;have i7:w2.heap[B]?=some (.cells #[.int .i64 0,.int .i64 0,.string ⟨#[]⟩,.slice none 0 0] 24 (0,0)):=by rw[e8,<- i5,U];exact heap_alloc_new w1 _
 have a8:Below w.heap.size w w2:=(h3.trans d9).below nlr (fun _ e=>e.elim);have J:w.heap.size<=B:=by omega
 have l2:mb≠B:=by omega
 obtain⟨⟨m0,m1,m2,m3⟩,_⟩:=cells4 d0;have h0:=qh (z2d w2 (⟨_,rfl,hS.kept (z0b a8 none)⟩:Ma none w2 (.agg #[.int .i64 D.kind,.int .i64 D.start,.string D.lead,.slice a D.n cp]) D) e9 (ht.below a8 nlr));have HS:=qh hS;clear hS;have j7:=qh e9;clear e9;have HT:=qh ht;clear ht;have HA:=qh g4;clear g4;have g3:=qh h4;clear h4;have h2:=qh a2;clear a2 hL;have K:=qh i7;clear i7;have c9:=qh d0;clear d0 e7;have d5:=qh a8;clear a8 h3 d9 i5;clear j9 j2;have l6:=@run_makeMap prog;rw[U,Q] at m0 m1 m2 m3;rw[b0] at m0 m1 m2 m3
 go_enter func32,ntmps32
 go_wp2_with fail
 rw[<- Q,<- U,<- e8,<- b0];clear m0 m1 m2 m3 Q U e8 b0;refine h0.out.mono ?_;rintro r w4 ⟨a7,hr⟩;have i4:=(a7.block _ (lt_of_block c9.out)).trans c9.out;have Y:=(a7.block _ (lt_of_block K.out)).trans K.out;have T:=qh (d5.out.trans (a7.mono d5.out.size));clear a7 c9 K h0 d5;have a6:=qh i4;clear i4;have E:=qh Y;clear Y
 rcases hr with ⟨hv,rfl⟩|⟨hv,rfl⟩
 rotate_left
 ·have HV:=qh hv;clear hv;obtain⟨⟨r0,r1,r2,r3⟩,G⟩:=cells4 E.out;have f0:=G 0;have f1:=G 1;have f2:=G 2;have f3:=G 3;clear G
  go_wp2_with fail
  exact bodyPost_ret (z0j rfl _ (b:=B) rfl rfl (z0w w4 B _ _ _ _ E.out)) rfl ⟨z0d T.out J _ _ _ _,.inr ⟨fun h=>HV.out h.1,rfl⟩⟩
 have HV:=qh hv;clear hv;obtain⟨S,g0⟩:=exq (w4.heap.size);obtain⟨w5,a1⟩:=exq (w4.alloc (.map #[] 0));obtain⟨w6,b3⟩:=exq (w5.alloc (.cells #[.map (some S)] 91));have i3:w5.heap.size=w4.heap.size+1:=by rw[a1];simp
 obtain⟨ob,e6⟩:=exq (w4.heap.size+1);have g5:Fr (fun _=>False) w4 w5:=by rw[a1];exact Fr.alloc _ _
 have e2:Fr (fun _=>False) w5 w6:=by rw[b3];exact Fr.alloc _ _
 have c7:MpM w5 S 0 m u:=by rw[a1,g0];exact MpM.made w4 m u
 have j1:w6.heap[ob]?=some (.cells #[.map (some S)] 91 (0,0)):=by rw[e6,<- i3,b3];exact heap_alloc_new w5 _
 have Z:RnI w w6 mb B ob S n 0 mc m u:=by
  have f4:=g5.trans e2;rw[<- f5] at a6;exact⟨(f4.block mb (lt_of_block a6.out) (fun e=>e)).trans a6.out,(f4.block B (lt_of_block E.out) (fun e=>e)).trans E.out,⟨j1,c7.kept e2 (fun e=>e)⟩,T.out.trans (f4.below T.out.size (fun _ e=>e.elim)),J,by have:=T.out.size;omega,by have:=T.out.size;omega⟩
 have H:=qh Z;clear Z j1 c7 g5 e2 i3 a6 E T
 go_wp2_with fail
 rw[<- e6,<- g0,<- a1,<- b3];clear g0 a1 b3 e6;have k4:=qh f5;clear f5
 go_loopw [19] (fun f8 j4=>∃ q:Nat,q<=n/\f8=.int .i64 (q:Int)/\(∀ j,j<q->1<=m j/\m j<=500/\0<=u j/\u j<=500)/\RnI w j4 mb B ob S n q mc m u) (fun f8 _=>n-(intOf f8).toNat)
 case atStart=>exact⟨0,Nat.zero_le _,rfl,fun j hj=>absurd hj (Nat.not_lt_zero _),H.out⟩
 obtain⟨q,hq,rfl,g7,Z⟩:=hrel;clear H;have d2:=qh g7;clear g7;have H:=qh Z;clear Z;by_cases d8:q<n
 ·have k9:(q:Int)<(n:Int):=by omega
  have k7:(0:Int)<=(q:Int):=by omega
  obtain rfl:=HA.out (by omega);have c0:=(H.out.be.cell (p:=⟨bl,ol+q*2,none⟩) (g3.out (by omega)).1).trans (h2.out q d8).1;have c1:=(H.out.be.cell (p:=⟨bl,ol+q*2+1,none⟩) (g3.out (by omega)).1).trans (h2.out q d8).2;obtain⟨F,f9⟩:=exq (m q);obtain⟨I,f7⟩:=exq (u q);rw[<- f9] at c0;rw[<- f7] at c1;have a3:=qh f9;clear f9;have d4:=qh f7;clear f7;obtain⟨z,l⟩:=exq (wr.alloc (.cells #[.int .i64 F,.int .i64 I] 50));obtain⟨eb,h8⟩:=exq (wr.heap.size);have a5:Fr (fun _=>False) wr z:=by rw[l];exact Fr.alloc _ _
  have b2:z.heap[eb]?=some (.cells #[.int .i64 F,.int .i64 I] 50 (0,0)):=by rw[l,h8];exact heap_alloc_new wr _
  have N:=H.out.new a5;have e0:z.cell? ⟨eb,0,none⟩=some (.int .i64 F):=by simp[World.cell?,b2]
  have e1:z.cell? ⟨eb,1,none⟩=some (.int .i64 I):=by simp[World.cell?,b2]
  have o0:z.cell? ⟨ob,0,none⟩=some (.map (some S)):=by simp[World.cell?,N.rp.1]
  obtain⟨⟨r0,r1,r2,r3⟩,G⟩:=cells4 N.kr;have f0:=G 0;have f1:=G 1;have f2:=G 2;have f3:=G 3;have l0:=qh b2;clear b2;have d:=qh N;clear N;have b7:¬ (1<=F/\F<=500/\0<=I/\I<=500)->¬ RenOk n m u:=fun h hr=>h (by rw[a3.out,d4.out];exact hr q d8);have O:=qh b7;clear b7;rw[l] at e0 e1 o0 r0 r1 r2 r3 f0 f1 f2 f3;clear G;rw[h8] at e0 e1;by_cases h1:F<1
  ·have L:=qh (O.out (by omega))
   go_wp2_with fail
   rw[<- l];exact bodyPost_ret (z0j rfl _ (b:=B) rfl rfl (z0w z B _ _ _ _ d.out.kr)) rfl ⟨z0d d.out.be J _ _ _ _,.inr ⟨fun h=>L.out h.2,rfl⟩⟩
  have l1:decide (F<1)=false:=by simp;omega
  by_cases h5:(500:Int)<F
  ·have L:=qh (O.out (by omega));clear h1
   go_wp2_with fail
   rw[<- l];exact bodyPost_ret (z0j rfl _ (b:=B) rfl rfl (z0w z B _ _ _ _ d.out.kr)) rfl ⟨z0d d.out.be J _ _ _ _,.inr ⟨fun h=>L.out h.2,rfl⟩⟩
  have l5:decide ((500:Int)<F)=false:=by simp;omega
  by_cases h6:I<0
  ·have L:=qh (O.out (by omega));clear h1 h5
   go_wp2_with fail
   rw[<- l];exact bodyPost_ret (z0j rfl _ (b:=B) rfl rfl (z0w z B _ _ _ _ d.out.kr)) rfl ⟨z0d d.out.be J _ _ _ _,.inr ⟨fun h=>L.out h.2,rfl⟩⟩
  have l3:decide (I<0)=false:=by simp;omega
  by_cases g:(500:Int)<I
  ·have L:=qh (O.out (by omega));clear h1 h5 h6
   go_wp2_with fail
   rw[<- l];exact bodyPost_ret (z0j rfl _ (b:=B) rfl rfl (z0w z B _ _ _ _ d.out.kr)) rfl ⟨z0d d.out.be J _ _ _ _,.inr ⟨fun h=>L.out h.2,rfl⟩⟩
  have l7:decide ((500:Int)<I)=false:=by simp;omega
  have b9:1<=F/\F<=500/\0<=I/\I<=500:=by omega
  have HR:=qh b9;clear b9 h1 h5 h6 g;clear r0 r1 r2 r3 f0 f1 f2 f3;have b1:=d.out.rp.2.look (s:=F) (by have:=HR.out;omega) (by have:=HR.out;omega);rw[l] at b1;have c8:∀ j,j<q+1->1<=m j/\m j<=500/\0<=u j/\u j<=500:=fun j hj=>by
   by_cases e:j=q
   ·subst e;rw[<- a3.out,<- d4.out];exact HR.out
   exact d2.out j (by omega)
  have b5:=qh c8;clear c8;obtain⟨gd,i2⟩:∃ gd,gd=(mpO m u q F).getD 0:=⟨_,rfl⟩;rw[<- i2] at b1;clear i2;cases C:(mpO m u q F).isSome
  ·rw[C] at b1;obtain⟨D1,A,h9,g8⟩:=d.out.rp.2;rw[l] at A;have HM:=qh C;clear C;have X:=qh A;clear A;have k1:=qh h9;clear h9;have j5:=qh g8;clear g8;have b8:=keyM (s:=F) (by have:=HR.out;omega) (by have:=HR.out;omega);have j0:=qh b8;clear b8;have g6:=u4j (s:=I) (by have:=HR.out;omega) (by have:=HR.out;omega);have j6:=qh g6;clear g6;have g2:=qh l
   go_wp2_with (at_mapUpdate;refine wpList_mapUpdate_own _ rfl _ _ _ 91 rfl 3 3 u5c underlying91 _ S q D1 rfl X.out (by unfold maxLen;omega) _ _ (.int .i64 F) rfl rfl j0.out (.lit (.int .i64 I)) [] j6.out ?_;intro w8 W P;have k2:=qh W;clear W;have k5:=qh P;clear P)
   go_roundw
   case rel =>
    have i6:=k5.out;rw[<- g2.out] at i6;have a9:Fr (fun k=>k=S) z w8:=Fr.of_gb i6 (fun k e=>by cases e;rfl);have g:=d.out;have d7:∀ b c t f,z.heap[b]?=some (.cells c t f)->¬ b=S:=fun b c t f hb e=>g.rp.2.block hb e;have d1:mpO m u q (m q)=none:=by
     have:=HM.out;rw[a3.out] at this;cases e:mpO m u q (m q) with
     | none=>rfl
     | some t=>rw[e] at this;cases this
    refine⟨q+1,by omega,by go_num,b5.out,⟨(a9.block mb (lt_of_block g.kb) (d7 _ _ _ _ g.kb)).trans g.kb,(a9.block B (lt_of_block g.kr) (d7 _ _ _ _ g.kr)).trans g.kr,⟨(a9.block ob (lt_of_block g.rp.1) (d7 _ _ _ _ g.rp.1)).trans g.rp.1,MpM.put k1.out j5.out d1 (by rw[<- a3.out,<- d4.out];exact k2.out)⟩,g.be.trans (a9.below g.be.size (fun k e=>by rw[e];exact g.lp)),g.lr,g.lo,g.lp⟩⟩
   simp[intOf];omega
  rw[C] at b1;have HM:=qh C;clear C;have g2:=qh l;go_wp2;go_roundw
  case rel =>
   have g:=d.out;rw[g2.out] at g;refine⟨q+1,by omega,by go_num,b5.out,⟨g.kb,g.kr,⟨g.rp.1,g.rp.2.same (by rw[<- a3.out];exact HM.out)⟩,g.be,g.lr,g.lo,g.lp⟩⟩
  simp[intOf];omega
 have j8:q=n:=by omega
 have k6:¬ ((q:Int)<(n:Int)):=by omega
 have b6:RenOk n m u:=fun i hi=>d2.out i (by omega);have a4:=H.out;rw[j8] at a4;have i9:=qh b6;clear b6 d2 H;obtain⟨fb,d3⟩:=exq (wr.heap.size);obtain⟨z,l⟩:=exq (wr.alloc (.cells #[.func (.func 70) #[] #[.pointer (some ⟨ob,0,none⟩)]] 93));have a5:Fr (fun _=>False) wr z:=by rw[l];exact Fr.alloc _ _
 have i8:z.heap[fb]?=some (.cells #[.func (.func 70) #[] #[.pointer (some ⟨ob,0,none⟩)]] 93 (0,0)):=by rw[l,d3];exact heap_alloc_new wr _
 have g:=a4.new a5;have e5:R2P fb ob S n m u z:=⟨i8,g.rp⟩;have d6:=g.kb;rw[k4.out] at d6;have g1:=z6k (φ:=fun i o=>(mapF n m u i,mapF n m u o)) z (⟨_,rfl,HS.out.kept (z0b g.be none)⟩:Ma none z (.agg #[.int .i64 D.kind,.int .i64 D.start,.string D.lead,.slice a D.n cp]) D) j7.out (HT.out.below g.be nlr) (u1c fb ob S n m u) e5 (fun wb hb=>e5.kept (Fr.of_below hb:Fr (fun _=>False) z wb) (fun e=>e) (fun e=>e) (fun e=>e));rw[v9a] at g1;obtain⟨⟨m0,m1,m2,m3⟩,_⟩:=cells4 d6;rw[l] at m0 m1 m2 m3;have g9:=qh g1;clear g1;have K:=qh g.kr;have b4:=qh g.be;clear g a4 e5 i8 d6 a5
 go_wp2_with fail
 rw[<- d3,<- l];clear m0 m1 m2 m3 d3 l;refine g9.out.mono ?_;rintro r w8 ⟨e4,hr⟩;have Y:=(e4.block _ (lt_of_block K.out)).trans K.out;have k0:=qh (b4.out.trans (e4.mono b4.out.size));have k3:w.heap.size<=z.heap.size:=b4.out.size;clear e4 K g9 b4;have E:=qh Y;clear Y;obtain⟨⟨r0,r1,r2,r3⟩,G⟩:=cells4 E.out;have f0:=G 0;have f1:=G 1;have f2:=G 2;have f3:=G 3;clear G
 rcases hr with ⟨_,l4,R,rfl,A⟩|⟨d1,_⟩
 rotate_left
 ·exact absurd HV.out d1
 obtain⟨sa,sc,e3,_,_⟩:=z1e A.top;subst e3;have X:=qh (z3z (A.box4 E.out (.int .i64 (D.ren (mapF n m u)).kind) (.int .i64 (D.ren (mapF n m u)).start) (.string (D.ren (mapF n m u)).lead) (.slice sa (D.ren (mapF n m u)).n sc)) k3);clear A
 go_wp2_with fail
 exact bodyPost_ret (z0j rfl _ (b:=B) rfl rfl (z0w w8 B _ _ _ _ E.out)) rfl ⟨z0d k0.out J _ _ _ _,.inl ⟨⟨HV.out,i9.out⟩,_,R,rfl,X.out⟩⟩
end
end Go.Proofs.YteappjogmnogcaaGreatDoor
