/- Parts of a proof: BlH AloL RvA SdEr RnM RnW. -/
import Derived.Test.YteappjogmnogcaaGreatDoorT13
import Derived.Test.YteappjogmnogcaaGreatDoorT12
namespace Go.Proofs.YteappjogmnogcaaGreatDoor
set_option maxRecDepth 100000
set_option linter.unusedSimpArgs false
set_option linter.unusedVariables false
set_option linter.unusedSectionVars false
set_option maxHeartbeats 16000000
open Go Tryz
section
open Go.RowKit Go.Deep
theorem u0b:∀ args w,(callFunc 126 args).run prog w=.ok (.enter 126 args) w:=fun args w=>by kernel_rfl
theorem v6b (w:World) (s:Int):Calls prog 127 #[.int .i64 s] w (fun r w'=>r=.returned (.bool (!offI 500 s))/\w'=w):=by
 by_cases g:1<=s
 ·go_enter func127,ntmps127
  go_wp2;go_ret;exact⟨z0w (by
   unfold offI;rw[show decide (s<1)=false by simp;omega];by_cases c:s<=500
   ·simp[c]
   simp[c];omega),rfl⟩
 have d:decide (1<=s)=false:=by simp;omega
 go_enter func127,ntmps127
 go_wp2;go_ret;exact⟨z0w (by unfold offI;rw[show decide (s<1)=true by simp;omega];rfl),rfl⟩
theorem x7d (w:World) (s:Int):Calls prog 126 #[.int .i64 s] w (fun r w'=>r=.returned (.bool (offI 500 s))/\w'=w):=by
 have c:=qh (v6b w s)
 go_enter func126,ntmps126
 go_wp2_with fail
 refine c.out.mono ?_;rintro r d ⟨rfl,rfl⟩;go_wp2;go_ret;exact⟨z0w (by simp),rfl⟩
theorem y9m {n:Nat} {v:Value} {x:Nat->Int} (w:World) (d:Si none w v n x) (hn:(n:Int)<=9223372036854775807) :
  Calls prog 89 #[v] w (fun r w'=>r=.returned (.bool (isWord n x))/\w'=w):=by
 have c:=y2h w d hn (show TstF 126 #[] (offI 500) w from ⟨u0b,fun s=>by
  rw[show ∀ a:Value,(#[a]++#[]:Array Value)=#[a] from fun _=>rfl];exact x7d w s⟩)
 obtain⟨a,g,rfl⟩:=d.shape;have i:=qh c;clear c d;by_cases h:(n:Int)<=200
 ·go_enter func89,ntmps89
  go_wp2_with fail
  refine i.out.mono ?_;rintro r k ⟨rfl,rfl⟩;go_wp2;go_ret;exact⟨z0w (by unfold isWord y5n;rw[show decide (n<=200)=true by simp;omega];simp),rfl⟩
 have j:decide ((n:Int)<=200)=false:=by simp;omega
 go_enter func89,ntmps89
 go_wp2;go_ret;exact⟨z0w (by unfold isWord;rw[show decide (n<=200)=false by simp;omega];rfl),rfl⟩
theorem x8p {n i:Nat} {v:Value} {x:Nat->Int} (w:World) (g:Si none w v n x):Calls prog 93 #[v,.int .i64 (i:Int)] w (fun r w'=>r=.returned (.int .i64 (atW n x i))/\w'=w):=by
 obtain⟨a,p,b,m,rfl,j,u,s,hb,c⟩:=g.open;unfold maxLen at s;by_cases h:i<n
 ·have l:(i:Int)<(n:Int):=by omega
  have o:(0:Int)<=(i:Int):=by omega
  obtain rfl:=j (by omega);have c0:=c i h;have e:atW n x i=x i:=if_pos h;rw[e];obtain⟨k,d⟩:=exq (x i);rw[<- d] at c0;rw[<- d];clear c g hb j e d
  go_enter func93,ntmps93
  go_wp2;go_ret;exact⟨rfl,rfl⟩
 have l:¬ ((i:Int)<(n:Int)):=by omega
 have e:atW n x i=0:=if_neg h;rw[e];clear c g hb j e
 go_enter func93,ntmps93
 go_wp2;go_ret;exact⟨rfl,rfl⟩
theorem z5w (kind:Int) (na:Nat) (x:Nat->Int) (nb:Nat) (y:Nat->Int) (v:ByteArray):∀ i,(z3u kind na x nb y v i).n=i+1
 | 0=>rfl
 | i+1=>by
  show (z3u kind na x nb y v i).n+1=_;rw[z5w kind na x nb y v i]
theorem x3y (kind:Int) (na:Nat) (x:Nat->Int) (nb:Nat) (y:Nat->Int) (v:ByteArray):∀ i p,(z3u kind na x nb y v i).na p<=i
 | 0,p=>by show (if p=0 then 0 else 0)<=0;split<;>omega
 | i+1,p=>by
  have h1:=x3y kind na x nb y v i;show (if p=i then (if i=(z3u kind na x nb y v i).n then 0 else (z3u kind na x nb y v i).na i)+1 else (if p=(z3u kind na x nb y v i).n then 0 else (z3u kind na x nb y v i).na p))<=i+1
  have h2:=h1 i;have h3:=h1 p
  split<;>split<;>omega
theorem y6y (kind:Int) (na:Nat) (x:Nat->Int) (nb:Nat) (y:Nat->Int) (v:ByteArray):∀ i,(z3u kind na x nb y v i).kind=kind/\(z3u kind na x nb y v i).start=0/\(z3u kind na x nb y v i).lead=v
 | 0=>⟨rfl,rfl,rfl⟩
 | i+1=>y6y kind na x nb y v i
def u4z (kind:Int) (na:Nat) (x:Nat->Int) (nb:Nat) (y:Nat->Int) (v:ByteArray):Prop:=isWord na x=true/\isWord nb y=true/\z0s kind v=true
theorem Bld.c4 {w:World} {B db:Nat} {D:MD} {R:Nat->Value} {sv:Value} {one:ByteArray} {ac fl:Int} (h:Bld w B db D R sv one ac fl):w.cell? ⟨db,4,none⟩=some (.string one):=BlkB.c4 h.blk
theorem BlS.one {F:Nat->Prop} {B db:Nat} {D:MD} {one:ByteArray} {ac fl:Int} {w:World} (h:BlS F B db D one ac fl w):w.cell? ⟨db,4,none⟩=some (.string one):=by
 obtain⟨R,sv,c,d⟩:=h;exact c.c4
theorem y5e {kind:Int} {xv yv:Value} {na nb:Nat} {x y:Nat->Int} {v:ByteArray} (w:World) (hx:Si none w xv na x) (hy:Si none w yv nb y) (i6:(na:Int)<=9223372036854775807) (j5:(nb:Int)<=9223372036854775807) (hv:smS v) (ht:Tab w) (X:u4z kind na x nb y v) :
  Calls prog 40 #[.int .i64 kind,xv,yv,.string v] w (fun r w'=>Below w.heap.size w w'/\∃ sv R,r=.returned (.tuple #[.agg #[.int .i64 kind,.int .i64 0,.string v,sv],.int .i64 0])/\OwM w' w.heap.size sv (z9m kind na x nb y v) R):=by
 obtain⟨ax,cx,rfl⟩:=hx.shape;obtain⟨ay,cy,rfl⟩:=hy.shape;obtain⟨U,P,f5⟩:=X;have k4:na<=200:=by unfold isWord at U;simp at U;exact U.1
 have k1:nb<=200:=by unfold isWord at P;simp at P;exact P.1
 obtain⟨w1,a3⟩:=exq (w.alloc (.cells #[.int .i64 0,.int .i64 0,.string ⟨#[]⟩,.slice none 0 0] 24));obtain⟨rb,e7⟩:=exq (w.heap.size);have G:Below w.heap.size w w1:=by rw[a3];exact(Below.refl _ w).alloc nlr _
 have h6:w1.heap[rb]?=some (.cells #[.int .i64 0,.int .i64 0,.string ⟨#[]⟩,.slice none 0 0] 24 (0,0)):=by rw[a3,e7];exact heap_alloc_new w _
 have j9:w.heap.size<=rb:=by omega
 have c8:∀ W,Below w.heap.size w W->Si none W (.slice ax na cx) na x:=fun W h=>hx.kept (z0b h none);have d9:∀ W,Below w.heap.size w W->Si none W (.slice ay nb cy) nb y:=fun W h=>hy.kept (z0b h none);have b9:=qh (y9m w1 (c8 w1 G) i6);have c9:=qh (y9m w1 (d9 w1 G) j5);have e1:=z3b kind v w1 hv (ht.below G nlr);rw[f5] at e1;rw[U] at b9;rw[P] at c9;have h5:=qh e1;clear e1 U P f5 ht;have j0:=qh c8;clear c8 hx;have j7:=qh d9;clear d9 hy;have e3:=qh G;clear G;have e8:=qh h6;clear h6
 go_enter func40,ntmps40
 go_wp2_with fail
 rw[<- a3,<- e7];clear a3 e7;refine b9.out.mono ?_;rintro r l4 ⟨rfl,rfl⟩
 go_wp2_with fail
 refine c9.out.mono ?_;rintro r k2 ⟨rfl,rfl⟩
 go_wp2_with fail
 refine h5.out.mono ?_;rintro r w2 ⟨rfl,e9⟩;have a9:=e3.out.trans (e9.mono e3.out.size);have g5:=(e9.block _ (lt_of_block e8.out)).trans e8.out;have a6:=qh (y6c kind w2);have e4:=qh a9;clear a9 e9 e3 b9 c9 h5;have g3:=qh g5;clear g5 e8
 go_wp2_with fail
 refine a6.out.mono ?_;rintro r w3 ⟨E,rfl,c7,N,f8⟩;obtain⟨B,z⟩:=exq (w2.heap.size);rw[<- z] at c7 N f8;have d6:w.heap.size<=B:=by rw[z];exact e4.out.size
 have i8:B<=w3.heap.size:=by rw[z];rw[z] at N;exact N.size
 have J:=c7.old i8;obtain⟨⟨v1,i5⟩,j4,h3⟩:=J.cells;have i9:=h3 2;clear h3 i5;obtain⟨w4,a5⟩:=exq (w3.setCell ⟨E,2,none⟩ (.string v));have a7:BlS (fun b=>b<B) B E (z1r kind 0 v) (oneF kind) 0 0 w4:=by rw[a5];exact J.lead v
 have D:Below B w2 w4:=by rw[a5];exact N.setCell (p:=⟨E,2,none⟩) f8 _
 have i3:B<=w4.heap.size:=by rw[z];rw[z] at D;exact D.size
 have Y:=qh (x2t ⟨#[]⟩ w4 a7 i3 (by show 0<=100000;omega));have b8:=qh D;clear D N c7 J a7 a6;have o:=qh z;clear z
 go_wp2_with fail
 rw[<- a5];clear a5 j4 i9;refine Y.out.mono ?_;rintro r w5 ⟨rfl,a1⟩;have h0:(z1r kind 0 v).state ⟨#[]⟩=z3u kind na x nb y v 0:=rfl;rw[h0] at a1;have b3:BlN (fun b=>b<B) B E (z3u kind na x nb y v 0) (oneF kind) ((0:Nat):Int) 0 w5 w5:=BlN.refl a1.1;have b7:=b8.out.trans a1.2.2;have b4:=qh b3;clear b3 a1 h0 Y;have S:=qh b7;clear b7 b8;obtain⟨m,hm⟩:=exq (max na nb);have l2:m<=200:=by omega
 have g6:max (na:Int) (nb:Int)=(m:Int):=by omega
 have HM:=qh hm;clear hm
 go_wp2_with fail
 clear g6
 go_loopw [11,43] (fun i2 d1 wr=>∃ i:Nat,i<=m/\i2=.int .i64 (i:Int)/\d1=.int .i64 (i:Int)/\BlN (fun b=>b<B) B E (z3u kind na x nb y v i) (oneF kind) (i:Int) 0 w5 wr) (fun _ d1 _=>m-(intOf d1).toNat)
 case atStart=>exact⟨0,Nat.zero_le _,rfl,rfl,b4.out⟩
 obtain⟨i,hi,rfl,rfl,g1⟩:=hrel;clear b4;have F:=qh g1;clear g1;have T:=S.out.trans F.out.2.2;have h8:B<=wr.heap.size:=by rw[o.out];rw[o.out] at T;exact T.size
 have k9:B<=w5.heap.size:=by have h:=S.out;rw[o.out];rw[o.out] at h;exact h.size
 by_cases l1:i<m
 ·have k6:(i:Int)<(m:Int):=by omega
  have f4:=x2t ⟨#[]⟩ wr F.out.1 h8 (by rw[z5w];omega);rw[z5w] at f4;have Y:=qh f4;clear f4 T
  go_wp2_with fail
  refine Y.out.mono ?_;rintro r w6 ⟨rfl,h9⟩;obtain⟨l,A⟩:=exq (w6.drew);have Z:Fr (fun _=>False) w6 l:=by rw[A];exact(Fr.refl _ _).drew
  have d:Below w6.heap.size w6 l:=Z.below nlr (fun _ e=>e.elim);have u:BlN (fun b=>b<B) B E ((z3u kind na x nb y v i).state ⟨#[]⟩) (oneF kind) (i:Int) 0 w5 l:=by
   have h1:=F.out.trans h9;exact⟨h1.1.kept d,fun b hb=>(d.block b (h1.1.lt.2.2 b hb)).trans (h1.2.1 b hb),h1.2.2.trans (d.mono (by have:=h1.2.2.size;omega))⟩
  have j:Below B w2 l:=S.out.trans u.2.2;have I:Below w.heap.size w l:=e4.out.trans (j.mono d6);have c4:=u.1.one;have i4:B<=l.heap.size:=by rw[o.out];rw[o.out] at j;exact j.size
  have e5:=qh (x8p (i:=i) l (j0.out l I));have e0:=qh (x8p (i:=i) l (j7.out l I));have e2:((z3u kind na x nb y v i).state ⟨#[]⟩).n=i+2:=by show (z3u kind na x nb y v i).n+1=_;rw[z5w]
  have a8:((z3u kind na x nb y v i).state ⟨#[]⟩).na i<=100000:=by
   show (if i=(z3u kind na x nb y v i).n then 0 else (z3u kind na x nb y v i).na i)<=100000
   have:=x3y kind na x nb y v i i
   split<;>omega
  have s:=u0p (q:=i) (atW na x i) (atW nb y i) ((i+1:Nat):Int) (oneF kind) l u.1 (by omega) (by omega) i4 (by rw[e2];omega) (by rw[e2];omega) a8;rw[show ((z3u kind na x nb y v i).state ⟨#[]⟩).arc i (atW na x i) (atW nb y i) (oneF kind) ((i+1:Nat):Int)=z3u kind na x nb y v (i+1) from rfl,show (i:Int)+1=((i+1:Nat):Int) by omega] at s;obtain⟨on,C⟩:=exq (oneF kind);rw[<- C] at c4 s;obtain⟨xi,d2⟩:=exq (atW na x i);obtain⟨yi,d7⟩:=exq (atW nb y i);rw[<- d2,<- d7] at s;rw[<- d2] at e5;rw[<- d7] at e0;have g8:=qh C;clear C;clear d2 d7;have b6:=qh s;clear s;have f9:=qh u;clear u h9 Y F Z d e2 a8 j I
  go_wp2_with fail
  refine z0g (fun wk=>wk.cell? ⟨E,4,none⟩=some (.string on)) 14 (by kernel_rfl) ?_;rw[<- A];clear A;refine z0c.tm 0 c4 ?_;refine z0c.tm 1 c4 ?_;refine z0c.tm 2 c4 ?_;refine z0c.tm 3 c4 ?_;refine z0c.tm 5 c4 ?_;refine z0c.tm 6 c4 ?_;refine z0c.tm 8 c4 ?_;refine z0c.tm 9 c4 ?_;refine z0c.tm 10 c4 ?_;refine z0c.tm 11 c4 ?_;refine z0c.tm 12 c4 ?_
  try simp only[Act.put,tryL]
  refine z0c.on 4 fun K H=>?_;go_simp;refine e5.out.mono ?_;rintro r l0 ⟨rfl,rfl⟩;refine H.out _ _ (.inr c4) ?_;clear H K
  try simp only[Act.put,tryL]
  refine z0c.on 7 fun K H=>?_;go_simp;refine e0.out.mono ?_;rintro r k5 ⟨rfl,rfl⟩;refine H.out _ _ (.inr c4) ?_;clear H K
  try simp only[Act.put,tryL]
  refine z0c.tm 13 c4 ?_
  try simp only[Act.put,tryL]
  refine z0c.on 14 fun K H=>?_;go_simp;refine b6.out.mono ?_;rintro r w7 ⟨rfl,d5⟩;refine H.out _ _ (.inl rfl) (z0c.dn ?_);clear H K c4;rw[g8.out] at d5;have i7:=qh (f9.out.trans d5);clear d5 b6 f9 e5 e0;go_wp2;go_roundw
  case rel=>exact⟨i+1,by omega,by go_num,by go_num,i7.out⟩
  simp[intOf];omega
 have j8:m=i:=by omega
 subst j8;have k3:¬ ((m:Int)<(m:Int)):=by omega
 obtain⟨l,A⟩:=exq (wr.drew);have Z:Fr (fun _=>False) wr l:=by rw[A];exact(Fr.refl _ _).drew
 have d:Below wr.heap.size wr l:=Z.below nlr (fun _ e=>e.elim);have h2:=F.out.1.kept d;have j:Below B w2 l:=T.trans (d.mono h8);obtain⟨R,sv,k,a4⟩:=h2;obtain⟨g,cp,rfl,j1,k7,_,_⟩:=z7z k.own.top (by rw[z5w];omega);have d3:=BlkB.c3 k.blk;have d4:=BlkB.c4 k.blk;have g0:=k.own.fin_cell (i:=m) (by rw[z5w];omega);have fg:=z5z k.own.top (m*2);have g4:=k.own.setFin (q:=m) (by rw[z5w];omega) (oneF kind);rw[z5w] at d3;have j6:E≠g:=fun e=>z2p k.own.top k.blk (by decide) (by rw[e];rfl);obtain⟨w8,O⟩:=exq (l.setCell ⟨g,m*2,none⟩ (.string (oneF kind)));have b0:BlS (fun b=>b<B) B E (z9m kind na x nb y v) (oneF kind) (m:Int) 0 w8:=by
  have e:z9m kind na x nb y v=(z3u kind na x nb y v m).setFin m (oneF kind):=by unfold z9m;rw[<- HM.out]
  rw[e,O];refine⟨R,_,⟨by rw[z0e j6];exact k.blk,g4,k.low⟩,fun b hb=>⟨(a4 b hb).1,by rw[nblk_setCell];exact(a4 b hb).2.1,(a4 b hb).2.2⟩⟩
 have b1:Below B w2 w8:=by rw[O];exact j.setCell (p:=⟨g,m*2,none⟩) j1 _
 have c:l.cell? ⟨E,3,none⟩=some (.slice (some ⟨g,0,none⟩) (m+1) cp)/\l.cell? ⟨E,4,none⟩=some (.string (oneF kind)):=⟨d3,d4⟩;have a2:(z9m kind na x nb y v).n=m+1:=by unfold z9m;rw[<- HM.out];exact z5w kind na x nb y v m
 have g9:(z9m kind na x nb y v).kind=kind/\(z9m kind na x nb y v).start=0/\(z9m kind na x nb y v).lead=v:=by unfold z9m;exact y6y kind na x nb y v _
 have d8:=v7z w8 b0 (by rw[a2];omega) (by omega) (by omega);rw[a2] at d8;have g7:=qh d8;clear d8 b0;have g6:(m:Int)<(m:Int)+1:=by omega
 have k0:(0:Int)<=(m:Int):=by omega
 obtain⟨on,C⟩:=exq (oneF kind);rw[<- C] at c O;have g8:=qh C;clear C;have b2:=qh b1;clear b1 j T;have e6:=qh g9;clear g9;have j2:=qh a2;clear a2;clear d3 d4 k a4 g4 F Z d
 go_wp2_with fail
 refine z0g (fun wk=>wk.cell? ⟨E,3,none⟩=some (.slice (some ⟨g,0,none⟩) (m+1) cp)/\wk.cell? ⟨E,4,none⟩=some (.string on)) 12 (by kernel_rfl) ?_;rw[<- A];clear A;refine z0c.tm 0 c ?_;refine z0c.tm 1 c ?_;refine z0c.tm 2 c ?_;refine z0c.tm 3 c ?_;refine z0c.tm 4 c ?_;refine z0c.tm 5 c ?_;refine z0c.tm 6 c ?_;refine z0c.tm 7 c ?_;refine z0c.tm 8 c ?_;refine z0c.tm 9 c ?_;refine z0c.tm 10 c ?_;refine z0c.tm 11 c ?_
 try simp only[Act.put,tryL]
 refine z0c.on 12 fun K H=>?_;go_simp;refine H.out _ _ (.inl rfl) (z0c.dn ?_);clear H K c g0 fg;rw[<- O];clear O
 go_wp2_with fail
 refine g7.out.mono ?_;rintro r w9 ⟨f7,hr⟩;have L:Below B w2 w9:=b2.out.trans (f7.mono (by have h:=b2.out;rw[o.out];rw[o.out] at h;exact h.size));have h7:=(L.block _ (by rw[o.out];exact lt_of_block g3.out)).trans g3.out;have b5:=e4.out.trans (L.mono d6);clear f7 L g7;have j3:=qh b5;clear b5;have d0:=qh h7;clear h7;obtain⟨⟨r0,r1,r2,r3⟩,rz⟩:=cells4 d0.out;have f0:=rz 0;have f1:=rz 1;have f2:=rz 2;have f3:=rz 3;clear rz
 rcases hr with ⟨X,l3,R',rfl,Q⟩|⟨X,rfl⟩
 rotate_left
 ·exact absurd (show dnOk 0 (m+1) (m:Int) from ⟨rfl,by omega,by omega⟩) X
 rw[e6.out.1,e6.out.2.1,e6.out.2.2];obtain⟨sa,sc,g2,_,_⟩:=z0y Q.top;rw[j2.out] at g2;subst g2;have h4:=qh (z3s (Q.box4 d0.out (.int .i64 kind) (.int .i64 0) (.string v) (.slice sa (m+1) sc)) d6);clear Q X
 go_wp2_with fail
 exact bodyPost_ret (z0j rfl _ (b:=rb) rfl rfl (z0v w9 rb _ _ _ _ d0.out)) rfl ⟨z0d j3.out j9 _ _ _ _,_,R',rfl,h4.out⟩
end
section
open Go.RowKit Go.Deep
def allocs (w:World) (l:List Obj):World:=l.foldl World.alloc w
theorem y1z:∀ (l:List Obj) (w a:World) (B:Nat),Below B a w->B<=w.heap.size->Below B a (allocs w l)
 | [],_,_,_,h,_=>h
 | o::l,w,a,B,h,hB=>y1z l (w.alloc o) a B (h.alloc hB o) (by simp;omega)
theorem y6i:∀ (l:List Obj) (w:World) {q:Nat},q<w.heap.size->(allocs w l).heap[q]?=w.heap[q]?
 | [],_,_,_=>rfl
 | o::l,w,q,h=>(y6i l (w.alloc o) (by simp;omega)).trans (blk_alloc_lt _ _ _ h)
theorem z8v:∀ (l:List Obj) (w:World) {i:Nat} {o:Obj},l[i]?=some o->(allocs w l).heap[w.heap.size+i]?=some o
 | [],_,_,_,h=>by simp at h
 | o'::l,w,0,o,h=>by
  simp at h;subst h;exact(y6i l (w.alloc o') (by simp)).trans (heap_alloc_new w o')
 | o'::l,w,i+1,o,h=>by
  have:=z8v l (w.alloc o') (i:=i) (o:=o) (by simpa using h);rw[show (w.alloc o').heap.size+i=w.heap.size+(i+1) by simp;omega] at this;exact this
theorem z7r {w:World} {b n:Nat} {c:Array Value} {t:TypeId} {f:Nat × Nat} {x:Nat->Int} (h:w.heap[b]?=some (.cells c t f)) (hn:n<=maxLen) (d:∀ i,i<n->c[i]?=some (.int .i64 (x i))):Si none w (.slice (some ⟨b,0,none⟩) n n) n x :=
 .inr ⟨b,0,n,rfl,⟨lt_of_block h,by simp⟩,nlr,hn,fun i hi=>by rw[Nat.zero_add];exact cellOf h i (d i hi)⟩
theorem lt1 {p:Nat->Prop} (h:p 0):∀ i,i<1->p i:=fun i hi=>by
 have:i=0:=by omega
 subst this;exact h
theorem lt2 {p:Nat->Prop} (h:p 0) (c:p 1):∀ i,i<2->p i:=fun i hi=>by
 have:i=0\/i=1:=by omega
 rcases this with rfl|rfl<;>assumption
theorem y3x:1<=maxLen:=by unfold maxLen;omega
theorem y3q:2<=maxLen:=by unfold maxLen;omega
theorem u0q {w:World} {b:Nat} {c:Array Value} {t:TypeId} {f:Nat × Nat} {D:MD} {i:Nat} (h:w.heap[b]?=some (.cells c t f)) (hn:D.na i<=maxLen)
  (d:∀ k,k<D.na i->c[k*4]?=some (.int .i64 (D.ain i k))/\c[k*4+1]?=some (.int .i64 (D.aout i k))/\c[k*4+2]?=some (.string (D.aw i k))/\c[k*4+3]?=some (.int .i64 (D.ato i k))):ArS none w (.slice (some ⟨b,0,none⟩) (D.na i) (D.na i)) D i :=
 .inr ⟨b,0,D.na i,rfl,⟨lt_of_block h,by simp⟩,nlr,hn,fun k g=>by
  obtain⟨c1,c2,c3,c4⟩:=d k g;rw[Nat.zero_add];exact⟨cellOf h _ c1,cellOf h _ c2,cellOf h _ c3,cellOf h _ c4⟩⟩
theorem v9i (w:World) {D:MD} {i:Nat} (h:D.na i=0):ArS none w (.slice none 0 0) D i:=.inl ⟨h,none,0,rfl,Nat.zero_le _⟩
theorem u0n {w:World} {b:Nat} {c:Array Value} {t:TypeId} {f:Nat × Nat} {D:MD} {A:Nat->Value} (h:w.heap[b]?=some (.cells c t f)) (hn:D.n<=maxLen)
  (d:∀ i,i<D.n->c[i*2]?=some (.string (D.fin i))/\c[i*2+1]?=some (A i)/\ArS none w (A i) D i):StS none w (.slice (some ⟨b,0,none⟩) D.n D.n) D :=
 .inr ⟨b,0,D.n,A,rfl,⟨lt_of_block h,by simp⟩,nlr,hn,fun i hi=>by
  obtain⟨c1,c2,c3⟩:=d i hi;rw[Nat.zero_add];exact⟨cellOf h _ c1,cellOf h _ c2,c3⟩⟩
theorem u1d {w:World} {b n:Nat} {c:Array Value} {t:TypeId} {f:Nat × Nat} {x y:Nat->Int} (h:w.heap[b]?=some (.cells c t f)) (hn:n<=maxLen) (d:∀ i,i<n->c[i*2]?=some (.int .i64 (x i))/\c[i*2+1]?=some (.int .i64 (y i))):PrS none w (.slice (some ⟨b,0,none⟩) n n) n x y :=
 .inr ⟨b,0,n,rfl,⟨lt_of_block h,by simp⟩,nlr,hn,fun i hi=>by
  rw[Nat.zero_add];exact⟨cellOf h _ (d i hi).1,cellOf h _ (d i hi).2⟩⟩
theorem y8u:MSz mD:=⟨by decide,fun i=>by show (if i=0 then (⟨#[]⟩:ByteArray) else ⟨#[48]⟩).size<=_;split<;>decide,fun i d=>by show (if d=0 then (⟨#[49]⟩:ByteArray) else ⟨#[50]⟩).size<=_;split<;>decide,fun i=>by show (if i=0 then 2 else 0)<=_;split<;>omega,by decide,by decide⟩
theorem x4k {kind:Int} {na:Nat} {x:Nat->Int} {nb:Nat} {y:Nat->Int} {v:ByteArray} (hk:z3t kind=true) (hx:∀ i,0<=atW na x i/\atW na x i<=500) (hy:∀ i,0<=atW nb y i/\atW nb y i<=500) {N:Nat}:∀ i,i<N->BOk (z3u kind na x nb y v i) N i
 | 0,_=>(BOk.empty kind 0 v N).state (.inl rfl) (Nat.zero_le _)
 | i+1,hi=>by
  have ih:=x4k (v:=v) hk hx hy i (N:=N) (by omega);have hkk:((z3u kind na x nb y v i).state ⟨#[]⟩).kind=kind:=(y6y kind na x nb y v i).1;exact(ih.state (s:=⟨#[]⟩) (.inl rfl) (Nat.zero_le _)).put (hx i) (hy i) (by constructor<;>omega) (by rw[hkk];exact z9r hk) (y8e hk)
theorem y7u {kind:Int} {na:Nat} {x:Nat->Int} {nb:Nat} {y:Nat->Int} {v:ByteArray} (c:z3t kind=true) (l:∀ i,0<=atW na x i/\atW na x i<=500) (g:∀ i,0<=atW nb y i/\atW nb y i<=500) (j:smS v) (hn:max na nb<=1000):MSz (z9m kind na x nb y v):=by
 have d:=(y6y kind na x nb y v (max na nb));have h:=(x4k (v:=v) c l g (N:=max na nb+1) (max na nb) (by omega)).setFin (q:=max na nb) (s:=oneF kind) (.inr (by rw[d.1];exact z9r c)) (y8e c);have k:(z9m kind na x nb y v).n=max na nb+1:=z5w kind na x nb y v _;exact h.msz (by show z3t (z3u kind na x nb y v (max na nb)).kind=true;rw[d.1];exact c) (by show (z3u kind na x nb y v (max na nb)).n<=_;rw[z5w];omega) (by show smS (z3u kind na x nb y v (max na nb)).lead;rw[d.2.2];exact j) (by omega)
theorem y6b {n:Nat} {x:Nat->Int} (h:∀ i,0<=x i/\x i<=500) (i:Nat):0<=atW n x i/\atW n x i<=500:=by unfold atW;split;exact h i;omega
theorem v0j (i:Nat):0<=y12 i/\y12 i<=500:=by unfold y12;split<;>omega
theorem u3r:MSz dD:=y7u (by decide) (y6b v0j) (y6b fun _=>by unfold c3;omega) (by unfold smS;decide) (by decide)
theorem v7t:MSz abD:=y7u (by decide) (y6b v0j) (y6b v0j) (by unfold smS;decide) (by decide)
theorem u2y:MSz kD:=y7u (by decide) (y6b fun _=>by unfold c3;omega) (y6b fun _=>by unfold c3;omega) (by unfold smS;decide) (by decide)
theorem u5e:MSz (revD dD):=z6h u4r u3r
theorem v9u {D E:MD} (c:VM D) (g:MSz D) (d:VM E) (h:MSz E) (k:E.kind=D.kind) {lead:ByteArray} (i:smS lead):MSz (catD D E lead):=by
 obtain⟨j,o,m,l⟩:=x8r c g d h k lead;have:=c.n2;have:=d.n2;have:=c.arcs;have:=d.arcs;exact j.msz (by rw[m];exact c.kind) (by rw[o];omega) (by rw[l];exact i) (by omega)
theorem u4w:MSz cD:=v9u v8b.inZ { v7t with } (VM.outZ u3k) { u2y with } (by decide +kernel) (by unfold smS;decide +kernel)
def TrueB (w:World) (r:Ending) (w':World):Prop:=r=.returned (.bool true)/\Below w.heap.size w w'
def NewD (D:MD) (w:World) (r:Ending) (w':World):Prop:=Below w.heap.size w w'/\∃ sv,r=.returned (.agg #[.int .i64 D.kind,.int .i64 D.start,.string D.lead,sv])/\StS none w' sv D
theorem v5z (w:World):Calls prog 39 #[] w (NewD mD w):=by
 go_enter func39,ntmps39
 go_wp2_with fail
 obtain⟨l,c⟩:∃ l,l=[Obj.cells #[.int .i64 1,.int .i64 0,.string ⟨#[48]⟩,.slice (some ⟨w.heap.size+2,0,none⟩) 2 2] 24,.cells #[.int .i64 1,.int .i64 2,.string ⟨#[49]⟩,.int .i64 1,.int .i64 1,.int .i64 3,.string ⟨#[50]⟩,.int .i64 1] 59,
  .cells #[.string ⟨#[]⟩,.slice (some ⟨w.heap.size+1,0,none⟩) 2 2,.string ⟨#[48]⟩,.slice none 0 0] 57]:=⟨_,rfl⟩
 have k:(allocs w l).heap[w.heap.size+0]?=_:=z8v l w (i:=0) (by rw[c];rfl);have j:(allocs w l).heap[w.heap.size+1]?=_:=z8v l w (i:=1) (by rw[c];rfl);have g:(allocs w l).heap[w.heap.size+2]?=_:=z8v l w (i:=2) (by rw[c];rfl);have d:=y1z l w w w.heap.size blr nlr;subst c;refine bodyPost_ret (x5z rfl _ (b:=w.heap.size) rfl k) rfl ⟨d,_,rfl,?_⟩;refine u0n (D:=mD) (A:=fun i=>if i=0 then .slice (some ⟨w.heap.size+1,0,none⟩) 2 2 else .slice none 0 0) g y3q (fun i hi=>?_)
 have h:i=0\/i=1:=by have:i<2:=hi;omega
 rcases h with rfl|rfl
 ·exact⟨rfl,rfl,u0q (D:=mD) (i:=0) j y3q (lt2 ⟨rfl,rfl,rfl,rfl⟩ ⟨rfl,rfl,rfl,rfl⟩)⟩
 exact⟨rfl,rfl,v9i _ rfl⟩
theorem z5q {D:MD} {mv O J:Value} {na nb:Nat} {x y:Nat->Int} {s:ByteArray} (w:World) (P:Ma none w mv D) (N:MSz D) (H:Tab w) (z:Si none w O na x) (u:Si none w J nb y) (G:na<=100) (E:nb<=100) (k:VOk D na x nb y s) :
  Calls prog 41 #[mv,O,J] w (fun r w'=>r=.returned (.string s)/\Below w.heap.size w w'):=by
 obtain⟨sv,rfl,B⟩:=P;obtain⟨a,h,_,_,_,_,_,_,F,_⟩:=B.open;obtain⟨W,S,rfl⟩:=z.shape;obtain⟨U,T,rfl⟩:=u.shape;subst F;obtain⟨j,d⟩:=exq (w.alloc (.cells #[.int .i64 D.kind,.int .i64 D.start,.string D.lead,.slice a D.n h] 24));have l:Fr (fun _=>False) w j:=by rw[d];exact Fr.alloc _ _
 have c:Below w.heap.size w j:=l.below nlr (fun _ e=>e.elim);have I:=qh (y4w j (⟨_,rfl,B.kept (z0b c none)⟩:Ma none j (.agg #[.int .i64 D.kind,.int .i64 D.start,.string D.lead,.slice a D.n h]) D) N (H.below c nlr) (z.kept (z0b c none)) (u.kept (z0b c none)) (by omega) (by omega));have m:j.heap[w.heap.size]?=some (.cells #[.int .i64 D.kind,.int .i64 D.start,.string D.lead,.slice a D.n h] 24 (0,0)):=by rw[d];exact heap_alloc_new w _
 obtain⟨⟨m0,m1,L,K⟩,_⟩:=cells4 m;have i:=qh c;clear c l z u B H N m G E;have g:=qh k;clear k;rw[d] at m0 m1 L K
 go_enter func41,ntmps41
 go_wp2_with fail
 rw[<- d];clear d m0 m1 L K;refine I.out.mono ?_;rintro r R ⟨o,Q⟩;have C:=qh (i.out.trans (o.mono i.out.size));clear o i I
 rcases Q with ⟨_,_,_,st,e,p,rfl⟩|⟨A,rfl⟩
 rotate_left
 ·exact absurd ⟨g.out.1,g.out.2.1,g.out.2.2.1⟩ A
 rw[g.out.2.2.2 st e p];clear p g;go_wp2;go_ret;exact⟨rfl,C.out⟩
end
section
open Go.RowKit Go.Deep
def RvS (F:Nat->Prop) (B g cp:Nat) (M:MD) (w:World):Prop:=∃ R,OwM w B (.slice (some ⟨g,0,none⟩) M.n cp) M R/\∀ b,F b->Fre w (.slice (some ⟨g,0,none⟩) M.n cp) R M.n b
def RvN (F:Nat->Prop) (B g cp:Nat) (M:MD) (w w':World):Prop:=RvS F B g cp M w'/\(∀ b,F b->w'.heap[b]?=w.heap[b]?)/\Below B w w'
theorem RvS.sub {F c:Nat->Prop} {B g cp:Nat} {M:MD} {w:World} (h:RvS F B g cp M w) (j:∀ b,c b->F b):RvS c B g cp M w:=by
 obtain⟨R,d,i⟩:=h;exact⟨R,d,fun b hb=>i b (j b hb)⟩
theorem RvN.trans {F:Nat->Prop} {B g cp:Nat} {M M':MD} {w d i:World} (h:RvN F B g cp M w d) (c:RvN F B g cp M' d i):RvN F B g cp M' w i :=
 ⟨c.1,fun b hb=>(c.2.1 b hb).trans (h.2.1 b hb),h.2.2.trans c.2.2⟩
theorem RvN.sub {F d:Nat->Prop} {B g cp:Nat} {M:MD} {w c:World} (h:RvN F B g cp M w c) (i:∀ b,d b->F b):RvN d B g cp M w c:=⟨h.1.sub i,fun b hb=>h.2.1 b (i b hb),h.2.2⟩
theorem RvN.refl {F:Nat->Prop} {B g cp:Nat} {M:MD} {w:World} (h:RvS F B g cp M w):RvN F B g cp M w w:=⟨h,fun _ _=>rfl,blr⟩
theorem RvS.lt {F:Nat->Prop} {B g cp:Nat} {M:MD} {w:World} (h:RvS F B g cp M w):∀ b,F b->b<w.heap.size:=by
 obtain⟨R,d,c⟩:=h;exact fun b hb=>(c b hb).1
theorem RvS.kept {F:Nat->Prop} {B g cp:Nat} {M:MD} {w c:World} (h:RvS F B g cp M w) (hb:Below w.heap.size w c):RvS F B g cp M c:=by
 obtain⟨R,j,d⟩:=h;exact⟨R,j.kept (z0b hb none) (by simp),fun b i=>⟨Nat.lt_of_lt_of_le (d b i).1 hb.size,(d b i).2⟩⟩
theorem RvN.kept {F:Nat->Prop} {B g cp:Nat} {M:MD} {w c d:World} (h:RvN F B g cp M w c) (j:B<=w.heap.size) (hb:Below c.heap.size c d):RvN F B g cp M w d :=
 ⟨h.1.kept hb,fun b i=>(hb.block b (h.1.lt b i)).trans (h.2.1 b i),h.2.2.trans (hb.mono (Nat.le_trans j h.2.2.size))⟩
theorem RvS.grown {F:Nat->Prop} {B g cp:Nat} {M:MD} {w d:World} (h:RvS F B g cp M w) (hb:Below w.heap.size w d) (p:g<w.heap.size):RvS (fun b=>F b\/(w.heap.size<=b/\b<d.heap.size)) B g cp M d:=by
 obtain⟨R,j,k⟩:=h;refine⟨R,j.kept (z0b hb none) (by simp),fun b c=>?_⟩
 rcases c with c|⟨o,l⟩
 ·exact⟨Nat.lt_of_lt_of_le (k b c).1 hb.size,(k b c).2⟩
 refine⟨l,fun e=>?_,fun i hi e=>?_⟩
 ·have m:g=b:=by simpa [Value.ownBlock] using e
  omega
 have:=(World.ownsRow.lt (j.row i hi) b e).2;omega
theorem v1j {d m:World} {B g l cp u q:Nat} {M:MD} {R:Nat->Value} {o:Obj} {a b t:Int} {x:ByteArray} (P:B<=d.heap.size) (h:OwM d B (.slice (some ⟨g,0,none⟩) M.n cp) M R) (A:q<M.n)
  (O:m.ownsRow B 59 4 (.slice (some ⟨l,0,none⟩) (M.na q+1) u) (M.na q+1) (cat (arc4 M q) (M.na q)++[.int .i64 a,.int .i64 b,.string x,.int .i64 t])) (C:(d.alloc o).grownBy m (R q).ownBlock)
  (G:(R q).ownBlock=some l\/(d.alloc o).heap.size<=l) :
  OwM (m.setCell ⟨g,q*2+1,none⟩ (.slice (some ⟨l,0,none⟩) (M.na q+1) u)) B (.slice (some ⟨g,0,none⟩) M.n cp) (M.arc q a b x t) (fun i=>if i=q then .slice (some ⟨l,0,none⟩) (M.na q+1) u else R i) /\
  (m.cell? ⟨g,q*2+1,none⟩=some (R q)/\m.frozen? ⟨g,q*2+1,none⟩=false) /\
  (∀ c,Fre d (.slice (some ⟨g,0,none⟩) M.n cp) R M.n c->m.heap[c]?=d.heap[c]?/\(m.setCell ⟨g,q*2+1,none⟩ (.slice (some ⟨l,0,none⟩) (M.na q+1) u)).heap[c]?=d.heap[c]? /\
   Fre (m.setCell ⟨g,q*2+1,none⟩ (.slice (some ⟨l,0,none⟩) (M.na q+1) u)) (.slice (some ⟨g,0,none⟩) M.n cp) (fun i=>if i=q then .slice (some ⟨l,0,none⟩) (M.na q+1) u else R i) M.n c) /\
  Below B d (m.setCell ⟨g,q*2+1,none⟩ (.slice (some ⟨l,0,none⟩) (M.na q+1) u)):=by
 have Q:(d.alloc o).heap.size=d.heap.size+1:=by simp
 have I:∀ c,(Value.slice (some ⟨l,0,none⟩) (M.na q+1) u).ownBlock=some c->(R q).ownBlock=some c\/d.heap.size<=c:=fun c j=>by
  have e:l=c:=by simpa [Value.ownBlock] using j
  subst e
  rcases G with H|H
  ·exact .inl H
  right;omega
 have s:(R q).ownBlock≠some g:=fun e=>h.tne A e rfl;have E:=World.ownsRow.lt h.top g rfl;have F:=h.arc (a:=a) (b:=b) (x:=x) (t:=t) A O C I;have D:m.ownsRow B 57 2 (.slice (some ⟨g,0,none⟩) M.n cp) M.n (cat (st2 M R) M.n):=z2q (World.ownsRow.alloc h.top o) C (fun c j e=>by
  have K:g=c:=by simpa [Value.ownBlock] using j
  subst K;exact s e)
 have z:(d.alloc o).cell? ⟨g,q*2+1,none⟩=some (R q):=((Below.refl d.heap.size d).alloc nlr o).cell E.2 |>.trans (h.arcs_cell A)
 refine⟨F,⟨C.cell z (fun e=>s e.symm),z5z D _⟩,fun c j=>?_,?_⟩
 ·have J:c≠g:=fun e=>j.2.1 (by rw[e];rfl);have H:m.heap[c]?=d.heap[c]?:=(C.block c (by have:=j.1;omega) (fun e=>j.2.2 q A e.symm)).trans (blk_alloc_lt _ _ _ j.1);refine⟨H,by rw[z0e J];exact H,⟨by rw[nblk_setCell];have:=C.size;have:=j.1;omega,j.2.1,fun i hi=>?_⟩⟩
  dsimp only
  split
  ·intro e;have K:l=c:=by simpa [Value.ownBlock] using e
   subst K
   rcases G with L|L
   ·exact j.2.2 q A L
   have:=j.1;omega
  exact j.2.2 i hi
 exact(((Below.refl B d).alloc P o).grown C (by omega) (fun k N=>(World.ownsRow.lt (h.row q A) k N).1)).setCell (p:=⟨g,q*2+1,none⟩) E.1 _
end
section
open Go.RowKit Go.Deep
def RevE (D:MD) (w:World) (r:Ending) (w':World):Prop :=
 Below w.heap.size w w'/\((VM D/\VM (revD D)/\∃ sv R,r=.returned (.tuple #[.agg #[.int .i64 D.kind,.int .i64 (D.n:Int),.string D.lead,sv],.int .i64 0])/\OwM w' w.heap.size sv (revD D) R) \/
  (VM D/\¬ VM (revD D)/\r=.returned (.tuple #[z7m,.int .i64 2]))\/(¬ VM D/\r=.returned (.tuple #[z7m,.int .i64 1])))
theorem v3x {w:World} {B:Nat} {D:MD} {zs:Array Value} (g:B<=w.heap.size) (c:zs=madeCells (Value.agg #[.string ⟨#[]⟩,.slice none 0 0]).cells ((D.n+1)*2)) (hn:D.n+1<=maxLen) :
  OwM (w.alloc (.cells zs 57)) B (.slice (some ⟨w.heap.size,0,none⟩) (D.n+1) (D.n+1)) (revZ D) (fun _=>.slice none 0 0):=by
 refine⟨⟨?_,.inr ⟨w.heap.size,D.n+1,zs,rfl,g,heap_alloc_new w _,nlr,hn,by rw[c];exact size_madeCells _ _,?_⟩⟩,fun i _=>World.ownsRow_nil _ _ _ _,fun i j _ _ _ b hb=>by cases hb⟩
 ·exact z4n (z4v _ _) _
 have d:zs.toList=cat (st2 (revZ D) (fun _=>.slice none 0 0)) (D.n+1):=by
  rw[c];exact v5q (Value.agg #[.string ⟨#[]⟩,.slice none 0 0]).cells (by decide) (D.n+1)
 have h:(cat (st2 (revZ D) (fun _=>.slice none 0 0)) (D.n+1)).length=(D.n+1)*2:=z4n (z4v _ _) _;rw[d];show List.take ((D.n+1)*2) _=_;rw[<- h,List.take_length];rfl
theorem z5p {D:MD} {mv:Value} (w:World) (hM:Ma none w mv D) (k9:MSz D) (ht:Tab w):Calls prog 26 #[mv] w (RevE D w):=by
 obtain⟨sv,rfl,hS⟩:=hM;obtain⟨a,cp,b,x2,A,C,BB,O,rfl,ha,hc,hm,hb,a2⟩:=hS.open;obtain⟨w1,e6⟩:=exq (w.alloc (.cells #[.int .i64 D.kind,.int .i64 D.start,.string D.lead,.slice a D.n cp] 24));obtain⟨w2,h8⟩:=exq (w1.alloc (.cells #[.int .i64 0,.int .i64 0,.string ⟨#[]⟩,.slice none 0 0] 24));have f8:w1.heap.size=w.heap.size+1:=by rw[e6];simp
 have A1:Fr (fun _=>False) w w1:=by rw[e6];exact Fr.alloc _ _
 have x8:Fr (fun _=>False) w1 w2:=by rw[h8];exact Fr.alloc _ _
 have v2:w1.heap[w.heap.size]?=some (.cells #[.int .i64 D.kind,.int .i64 D.start,.string D.lead,.slice a D.n cp] 24 (0,0)):=by rw[e6];exact heap_alloc_new w _
 have j2:w2.heap[w.heap.size]?=some (.cells #[.int .i64 D.kind,.int .i64 D.start,.string D.lead,.slice a D.n cp] 24 (0,0)):=(x8.block _ (lt_of_block v2) (fun e=>e)).trans v2;have x0:w2.heap[w.heap.size+1]?=some (.cells #[.int .i64 0,.int .i64 0,.string ⟨#[]⟩,.slice none 0 0] 24 (0,0)):=by rw[<- f8,h8];exact heap_alloc_new w1 _
 have m4:Below w.heap.size w w2:=(A1.trans x8).below nlr (fun _ e=>e.elim);obtain⟨mb,l4⟩:=exq (w.heap.size);obtain⟨k,v6⟩:=exq (w.heap.size+1);have l9:w.heap.size<=k:=by omega
 have C1:mb≠k:=by omega
 rw[<- l4] at j2;rw[<- v6] at x0;obtain⟨⟨m0,m1,m2,m3⟩,_⟩:=cells4 j2;have B8:=qh (z2g w2 (⟨_,rfl,hS.kept (z0b m4 none)⟩:Ma none w2 (.agg #[.int .i64 D.kind,.int .i64 D.start,.string D.lead,.slice a D.n cp]) D) k9 (ht.below m4 nlr));have v0:=qh m4;clear m4;have w7:=qh j2;clear j2 v2 A1 x8 f8;have x1:=qh x0;clear x0;have uu9:=qh k9;clear k9;have HT:=qh ht;clear ht;have HA:=qh ha;clear ha;have HB:=qh hb;clear hb;have HR:=qh a2;clear a2 hS;rw[l4,h8,e6] at m0 m1 m2 m3
 go_enter func26,ntmps26
 go_wp2_with fail
 rw[<- e6,<- h8,<- v6,<- l4];clear m0 m1 m2 m3 e6 h8 v6 l4;refine B8.out.mono ?_;rintro r w4 ⟨k0,hr⟩;have m5:=v0.out.trans (k0.mono v0.out.size);have B2:=(k0.block _ (lt_of_block w7.out)).trans w7.out;have z5:=(k0.block _ (lt_of_block x1.out)).trans x1.out;clear k0 B8 v0 w7 x1;have v5:=qh m5;clear m5;have uu8:=qh B2;clear B2;have l7:=qh z5;clear z5
 rcases hr with ⟨hv,rfl⟩|⟨hv,rfl⟩
 rotate_left
 ·have HV:=qh hv;clear hv;obtain⟨⟨r0,r1,r2,r3⟩,rz⟩:=cells4 l7.out;have f0:=rz 0;have f1:=rz 1;have f2:=rz 2;have f3:=rz 3;clear rz
  go_wp2_with fail
  exact bodyPost_ret (z0j rfl _ (b:=k) rfl rfl (z0v w4 k _ _ _ _ l7.out)) rfl ⟨z0d v5.out l9 _ _ _ _,.inr (.inr ⟨HV.out,rfl⟩)⟩
 have E5:1<=D.n:=hv.n1;have C6:D.n<=3000:=hv.n2;have HV:=qh hv;clear hv;obtain rfl:=HA.out (by omega);unfold maxLen at hm;obtain⟨n,hn⟩:=exq (D.n);rw[<- hn] at E5 C6 hc;have x7:=z6u (P:=prog) 22 57 _ 2 40 underlying22 x7t .i64 .i64 (n+1) (by omega) (by omega);obtain⟨zs,v7⟩:=exq (madeCells (Value.agg #[.string ⟨#[]⟩,.slice none 0 0]).cells ((n+1)*2));rw[<- v7] at x7;have B3:((n+1:Nat):Int)=(n:Int)+1:=by omega
 rw[B3] at x7;have D1:=qh v7;clear v7;have HN:=qh hn;clear hn;obtain⟨⟨m0,m1,m2,m3⟩,_⟩:=cells4 uu8.out;rw[<- HN.out] at m3;rw[<- HN.out]
 go_wp2_with fail
 refine z0g (fun wk=>wk.cell? ⟨mb,0,none⟩=some (.int .i64 D.kind)/\wk.cell? ⟨mb,2,none⟩=some (.string D.lead)) 9 (by kernel_rfl) ?_;obtain⟨h,z⟩:=exq (w4.drew);rw[<- z];have c:h.cell? ⟨mb,0,none⟩=some (.int .i64 D.kind)/\h.cell? ⟨mb,2,none⟩=some (.string D.lead):=by rw[z];exact⟨m0,m2⟩
 have f5:Below w.heap.size w h:=by rw[z];exact v5.out.drew
 have A8:h.heap[mb]?=some (.cells #[.int .i64 D.kind,.int .i64 D.start,.string D.lead,.slice (some ⟨b,x2,none⟩) D.n cp] 24 (0,0)):=by rw[z];exact uu8.out
 have i4:h.heap[k]?=some (.cells #[.int .i64 0,.int .i64 0,.string ⟨#[]⟩,.slice none 0 0] 24 (0,0)):=by rw[z];exact l7.out
 clear m0 m1 m2 m3 z;have c8:=qh f5;clear f5 v5 uu8 l7;have j5:=qh A8;clear A8;have u:=qh i4;clear i4;have D3:IntKind.i64.wrap ((n:Int)+1)=(n:Int)+1:=by rw[IntKind.wrap_i64];omega
 refine z0c.tm 0 c ?_;refine z0c.tm 1 c ?_;refine z0c.tm 2 c ?_;refine z0c.tm 3 c ?_;refine z0c.tm 4 c ?_;refine z0c.tm 5 c ?_;refine z0c.tm 6 c ?_
 try simp only[Act.put,tryL]
 clear D3;refine z0c.on 7 fun K J=>?_;go_simp;obtain⟨g,hg⟩:=exq (h.heap.size);obtain⟨wa,f4⟩:=exq (h.alloc (.cells zs 57));have e4:Below h.heap.size h wa:=by rw[f4];exact(Below.refl _ h).alloc nlr _
 have r4:OwM wa w.heap.size (.slice (some ⟨g,0,none⟩) (n+1) (n+1)) (revZ D) (fun _=>.slice none 0 0):=by
  have h1:=v3x (w:=h) (B:=w.heap.size) (D:=D) (zs:=zs) c8.out.size (by rw[D1.out,HN.out]) (by unfold maxLen;have:=HN.out;omega);rw[<- f4,<- hg,<- HN.out] at h1;exact h1
 have j8:=(e4.block _ (lt_of_block j5.out)).trans j5.out;have z3:=(e4.block _ (lt_of_block u.out)).trans u.out;have A2:=c8.out.trans (e4.mono c8.out.size);have B0:mb≠g/\k≠g:=by have:=lt_of_block j5.out;have:=lt_of_block u.out;omega
 have s7:g<wa.heap.size:=by rw[f4,hg];simp
 have F6:w.heap.size<=g:=by rw[hg];exact c8.out.size
 rw[<- f4,<- hg];have X:wa.cell? ⟨mb,0,none⟩=some (.int .i64 D.kind)/\wa.cell? ⟨mb,2,none⟩=some (.string D.lead):=⟨(cells4 j8).1.1,(cells4 j8).1.2.2.1⟩;refine J.out _ _ (.inr X) ?_;clear J K x7 B3 c f4 hg e4;have r7:=qh r4;clear r4;have v4:=qh j8;clear j8 j5;have j4:=qh z3;clear z3 u;have w9:=qh A2;clear A2 c8
 try simp only[Act.put,tryL]
 obtain⟨⟨r0,r1,r2,r3⟩,rz⟩:=cells4 j4.out;have f0:=rz 0;have f1:=rz 1;have f2:=rz 2;have f3:=rz 3;clear rz;refine z0c.on 8 fun K J=>?_;go_simp;refine J.out _ _ (.inr X) ?_;clear J K
 try simp only[Act.put,tryL]
 refine z0c.on 9 fun K J=>?_;go_simp;refine J.out _ _ (.inl rfl) (z0c.dn ?_);clear J K X;obtain⟨wb,h9⟩:∃ wb,wb=(((wa.setCell ⟨k,0,none⟩ (.int .i64 D.kind)).setCell ⟨k,1,none⟩ (.int .i64 (n:Int))).setCell ⟨k,2,none⟩ (.string D.lead)).setCell ⟨k,3,none⟩ (.slice (some ⟨g,0,none⟩) (n+1) (n+1)):=⟨_,rfl⟩;have w0:Fr (fun q=>q=k) wa wb:=by rw[h9];exact(((((Fr.refl (fun q=>q=k) wa).set (p:=⟨k,0,none⟩) (.inl rfl) _).set (p:=⟨k,1,none⟩) (.inl rfl) _).set (p:=⟨k,2,none⟩) (.inl rfl) _).set (p:=⟨k,3,none⟩) (.inl rfl) _)
 have uu6:wb.heap[k]?=some (.cells #[.int .i64 D.kind,.int .i64 (n:Int),.string D.lead,.slice (some ⟨g,0,none⟩) (n+1) (n+1)] 24 (0,0)):=by rw[h9];exact z0v wa k _ _ _ _ j4.out
 have l6:=(w0.block mb (lt_of_block v4.out) C1).trans v4.out;have y8:Below w.heap.size w wb:=w9.out.trans (w0.below w9.out.size (fun q e=>by rw[e];exact l9));have m9:OwM wb w.heap.size (.slice (some ⟨g,0,none⟩) (n+1) (n+1)) (revZ D) (fun _=>.slice none 0 0):=by rw[h9];exact r7.out.box4 j4.out _ _ _ _
 obtain⟨F,hF⟩:∃ F:Nat->Prop,F=fun b=>b=mb\/b=k:=⟨_,rfl⟩;have d0:RvN F w.heap.size g (n+1) (revQ D 0) wb wb:=by
  have e:(revQ D 0).n=n+1:=by rw[HN.out];rfl
  refine RvN.refl ⟨fun _=>.slice none 0 0,by rw[e];exact m9,fun b hb=>⟨?_,?_,fun i _=>by simp[Value.ownBlock]⟩⟩
  ·rw[hF] at hb
   rcases hb with rfl|rfl
   ·exact lt_of_block l6
   exact lt_of_block uu6
  rw[hF] at hb;intro e2;have e3:g=b:=by simpa [Value.ownBlock] using e2
  rcases hb with rfl|rfl
  ·exact B0.1 e3.symm
  exact B0.2 e3.symm
 have z4:F mb:=by rw[hF];exact .inl rfl
 have B9:F k:=by rw[hF];exact .inr rfl
 have m3:=(cells4 l6).1.2.2.2;rw[<- HN.out] at m3;rw[<- h9];clear h9 w0 r7 v4 j4 w9 r0 r1 r2 r3 f0 f1 f2 f3 m9;have b3:=qh d0;clear d0;have E2:=qh z4;clear z4;have b2:=qh B9;clear B9 hF;have A3:=qh uu6;clear uu6;have C4:=qh l6;clear l6;have l0:=qh y8;clear y8;obtain⟨i0,hi,B6,f8,B7⟩:=z9g v1v;have HI:=qh hi;have y7:=qh B6;have A7:=qh f8;have z8:=qh B7;clear hi B6 f8 B7
 go_wp2_with fail
 clear m3
 go_loopw [29] (fun uu4 wr=>∃ q:Nat,q<=n/\uu4=.int .i64 (q:Int)/\RvN F w.heap.size g (n+1) (revQ D q) wb wr) (fun uu4 _=>n-(intOf uu4).toNat)
 case atStart=>exact⟨0,Nat.zero_le _,rfl,b3.out⟩
 obtain⟨q,hq,rfl,h4⟩:=hrel;clear b3;have b7:=qh h4;clear h4;have C9:w.heap.size<=wb.heap.size:=l0.out.size;by_cases l5:q<n
 ·have F9:(q:Int)<(n:Int):=by omega
  have E8:(0:Int)<=(q:Int):=by omega
  have x9:q<D.n:=by have:=HN.out;omega
  have A9:=(HB.out (by have:=HN.out;omega)).1;obtain⟨k1,k2,k3,k4,k5,k6,k7⟩:=HR.out q x9;have d3:=l0.out.trans b7.out.2.2;have t0:=(d3.cell (p:=⟨b,x2+q*2,none⟩) A9).trans k1;have t1:=(d3.cell (p:=⟨b,x2+q*2+1,none⟩) A9).trans k2;clear k1 k2;unfold maxLen at k4;obtain⟨fq,t8⟩:=exq (D.fin q);obtain⟨aq,s6⟩:=exq (A q);obtain⟨nq,e7⟩:=exq (D.na q);obtain⟨g5,z2⟩:=exq (C q);rw[<- t8] at t0;rw[<- s6,<- e7,<- z2] at t1;rw[<- s6,<- e7] at k5;rw[<- e7] at k6 k7;have E9:nq<=30000:=by rw[e7];have h1:=Nat.le_trans (z1u D (show q+1<=D.n by omega)) HV.out.arcs;have h2:z0f D (q+1)=z0f D q+D.na q:=rfl;omega
  have t7:=qh t8;clear t8;have j0:=qh e7;clear e7;clear s6 z2 k3 k4;have C7:=qh k5;clear k5;have D6:=qh k6;clear k6;have D9:=qh k7;clear k7;have d6:(revQ D q).n=n+1:=by rw[(z1m D q).n,HN.out];rfl
  have o3:=x1q HV.out uu9.out q (by omega);have y6:=qh o3;clear o3;have j7:=qh d6;clear d6;have G0:w.heap.size<=wr.heap.size:=d3.size;have s8:g<wr.heap.size:=by
   obtain⟨R,h1,_⟩:=b7.out.1;exact(World.ownsRow.lt h1.top g rfl).2
  obtain⟨sb,h6⟩:=exq (wr.heap.size);obtain⟨w5,e8⟩:=exq (wr.alloc (.cells #[.string fq,.slice aq nq g5] 57));have t9:Below wr.heap.size wr w5:=by rw[e8];exact(Below.refl _ wr).alloc nlr _
  have E0:w5.heap.size=wr.heap.size+1:=by rw[e8];simp
  have x4:w5.heap[sb]?=some (.cells #[.string fq,.slice aq nq g5] 57 (0,0)):=by rw[e8,h6];exact heap_alloc_new wr _
  obtain⟨F2,j3⟩:∃ F2:Nat->Prop,F2=fun b=>F b\/b=sb:=⟨_,rfl⟩;have n3:RvS F2 w.heap.size g (n+1) (revQ D q) w5:=(b7.out.1.grown t9 s8).sub (fun b hb=>by
   rw[j3] at hb;exact hb.imp id (fun e=>by rw[e,h6];omega))
  have o5:∀ b,F b->F2 b:=fun b hb=>by rw[j3];exact .inl hb
  have q8:F2 sb:=by rw[j3];exact .inr rfl
  have g3:=b7.out.kept C9 t9;have s1:w5.cell? ⟨sb,1,none⟩=some (.slice aq nq g5):=by simp[World.cell?,x4]
  rw[e8,h6] at s1;have o8:=qh (RvN.refl n3);clear n3;have b8:=qh g3;clear g3 b7 t9 d3;have E4:=qh x4;clear x4;have b1:=qh o5;clear o5;have n9:=qh q8;clear q8 j3;have E1:w.heap.size<=w5.heap.size:=by omega
  go_wp2_with fail
  rw[<- e8,<- h6];clear t0 t1 e8 h6 s1 E0
  go_loopw [37] (fun s9 wr=>∃ d:Nat,d<=nq/\s9=.int .i64 (d:Int)/\RvN F2 w.heap.size g (n+1) (revA D q d (revQ D q)) w5 wr) (fun s9 _=>nq-(intOf s9).toNat)
  case atStart=>exact⟨0,Nat.zero_le _,rfl,o8.out⟩
  obtain⟨d,hd,rfl,h4⟩:=hrel;clear o8;have u:=qh h4;clear h4;have z9:(revA D q d (revQ D q)).n=n+1:=by rw[(z7t D q (Skel.refl _) d).n];exact j7.out
  have g2:=(x2x HV.out uu9.out x9 ((z1m D q).kind) y6.out d (by rw[<- j0.out];omega));have a6:=(l0.out.trans b8.out.2.2).trans u.out.2.2;have p0:w.heap.size<=wr.heap.size:=a6.size;have e5:∀ p,(revA D q d (revQ D q)).na p<=100000:=fun p=>Nat.le_trans (g2.na p) (by
   have h1:=Nat.le_trans (z1u D (show q+1<=D.n by omega)) HV.out.arcs;have h2:z0f D (q+1)=z0f D q+D.na q:=rfl;have:=j0.out;omega)
  have U:=(u.out.2.1 k (b1.out k b2.out)).trans ((b8.out.2.1 k b2.out).trans A3.out);have e1:=(u.out.2.1 sb n9.out).trans E4.out;by_cases A4:d<nq
  ·have F4:(d:Int)<(nq:Int):=by omega
   have F0:(0:Int)<=(d:Int):=by omega
   have l1:=(D6.out (by omega)).1;obtain⟨uu0,uu1,uu2,uu3⟩:=D9.out d A4;obtain rfl:=C7.out (by omega);have c0:=(a6.cell (p:=⟨BB q,O q+d*4,none⟩) l1).trans uu0;have c1:=(a6.cell (p:=⟨BB q,O q+d*4+1,none⟩) l1).trans uu1;have c2:=(a6.cell (p:=⟨BB q,O q+d*4+2,none⟩) l1).trans uu2;have c3:=(a6.cell (p:=⟨BB q,O q+d*4+3,none⟩) l1).trans uu3;clear uu0 uu1 uu2 uu3;have d8:=HV.out.arc q d x9 (by rw[<- j0.out];exact A4);obtain⟨Q,v3⟩:∃ Q:Nat,D.ato q d=(Q:Int):=⟨(D.ato q d).toNat,by have:=d8.t0;omega⟩;have i2:Q<=n:=by have:=d8.t1;have:=HN.out;omega
   have b6:Q<(revA D q d (revQ D q)).n:=by rw[z9];omega
   have B4:=e5 Q;rw[v3] at c3;have C8:=qh v3;clear v3 d8;obtain⟨ai,w3⟩:=exq (D.ain q d);obtain⟨ao,d8⟩:=exq (D.aout q d);obtain⟨aw,v8⟩:=exq (D.aw q d);rw[<- w3] at c0;rw[<- d8] at c1;rw[<- v8] at c2;have D2:=qh w3;clear w3;have C0:=qh d8;clear d8;have E6:=qh v8;clear v8;have s8:g<wr.heap.size:=by
    obtain⟨R,h1,_⟩:=u.out.1;exact(World.ownsRow.lt h1.top g rfl).2
   obtain⟨ab,j6⟩:=exq (wr.heap.size);obtain⟨w6,g1⟩:=exq (wr.alloc (.cells #[.int .i64 ai,.int .i64 ao,.string aw,.int .i64 (q:Int)] 59));have l3:Below wr.heap.size wr w6:=by rw[g1];exact(Below.refl _ wr).alloc nlr _
   have C5:w6.heap.size=wr.heap.size+1:=by rw[g1];simp
   have r6:w6.heap[ab]?=some (.cells #[.int .i64 ai,.int .i64 ao,.string aw,.int .i64 (q:Int)] 59 (0,0)):=by rw[g1,j6];exact heap_alloc_new wr _
   have n6:=(l3.block _ (lt_of_block U)).trans U;obtain⟨F3,j9⟩:∃ F3:Nat->Prop,F3=fun b=>F2 b\/b=ab:=⟨_,rfl⟩;have g8:RvS F3 w.heap.size g (n+1) (revA D q d (revQ D q)) w6:=(u.out.1.grown l3 s8).sub (fun b hb=>by
    rw[j9] at hb;exact hb.imp id (fun e=>by rw[e,j6];omega))
   have o6:∀ b,F2 b->F3 b:=fun b hb=>by rw[j9];exact .inl hb
   have o7:F3 ab:=by rw[j9];exact .inr rfl
   have f9:=u.out.kept E1 l3;have m7:w.heap.size<=w6.heap.size:=by omega
   have c9:∀ b,F3 b->b<w6.heap.size:=g8.lt;have x3:=qh g8;clear g8;have s5:=qh f9;clear f9 u;have z7:=qh r6;clear r6;have q7:=qh n6;clear n6 U e1;have p9:=qh o6;clear o6;have A6:=qh o7;clear o7 j9;have s3:=qh c9;clear c9;clear l3 C5 a6 g2 e5;obtain⟨R,Y,G⟩:=x3.out;obtain⟨ra,rc,e0,_,_⟩:=z0y (Y.row Q b6);obtain⟨h,z⟩:=exq (w6.drew);have a3:Fr (fun _=>False) w6 h:=by rw[z];exact(Fr.refl _ _).drew
   have j:Below w6.heap.size w6 h:=a3.below nlr (fun _ e=>e.elim);have b0:OwM h w.heap.size (.slice (some ⟨g,0,none⟩) (revA D q d (revQ D q)).n (n+1)) (revA D q d (revQ D q)) R:=Y.kept (z0b j none) (by simp);have a8:∀ b,F3 b->Fre h (.slice (some ⟨g,0,none⟩) (revA D q d (revQ D q)).n (n+1)) R (revA D q d (revQ D q)).n b:=fun b hb=>⟨Nat.lt_of_lt_of_le (G b hb).1 j.size,(G b hb).2⟩;have I:=(a3.block _ (lt_of_block q7.out) (fun e=>e)).trans q7.out;have m:=(a3.block _ (lt_of_block z7.out) (fun e=>e)).trans z7.out;have v9:w.heap.size<=h.heap.size:=Nat.le_trans m7 j.size;have f7:h.cell? ⟨g,Q*2+1,none⟩=some (.slice ra ((revA D q d (revQ D q)).na Q) rc):=by rw[b0.arcs_cell b6,e0]
   have c:h.cell? ⟨k,3,none⟩=some (.slice (some ⟨g,0,none⟩) (n+1) (n+1))/\h.cell? ⟨g,Q*2+1,none⟩=some (.slice ra ((revA D q d (revQ D q)).na Q) rc)/\h.cell? ⟨ab,0,none⟩=some (.int .i64 ai)/\h.cell? ⟨ab,1,none⟩=some (.int .i64 ao)/\h.cell? ⟨ab,2,none⟩=some (.string aw)/\h.cell? ⟨ab,3,none⟩=some (.int .i64 (q:Int)):=⟨(cells4 I).1.2.2.2,f7,by simp[World.cell?,m],by simp[World.cell?,m],by simp[World.cell?,m],by simp[World.cell?,m]⟩;have C3:(Q:Int)<(n:Int)+1:=by have:=i2;omega
   have A0:(0:Int)<=(Q:Int):=by omega
   have d7:=qh b0;clear b0 Y;have N:=qh a8;clear a8 G;have b4:=qh e0;clear e0;have L:=qh I;clear I;have T:=qh m;clear m f7;have c7:=qh j;clear j a3
   go_wp2_with fail
   refine z0g (fun wk=>wk.cell? ⟨k,3,none⟩=some (.slice (some ⟨g,0,none⟩) (n+1) (n+1))/\wk.cell? ⟨g,Q*2+1,none⟩=some (.slice ra ((revA D q d (revQ D q)).na Q) rc)/\wk.cell? ⟨ab,0,none⟩=some (.int .i64 ai)/\wk.cell? ⟨ab,1,none⟩=some (.int .i64 ao)/\wk.cell? ⟨ab,2,none⟩=some (.string aw)/\wk.cell? ⟨ab,3,none⟩=some (.int .i64 (q:Int))) 14 (by kernel_rfl) ?_;rw[<- g1,<- j6];clear c0 c1 c2 c3 g1 j6;rw[<- z];clear z;refine z0c.tm 0 c ?_;refine z0c.tm 1 c ?_;refine z0c.tm 2 c ?_;refine z0c.tm 3 c ?_;refine z0c.tm 4 c ?_;refine z0c.tm 5 c ?_;refine z0c.tm 6 c ?_;refine z0c.tm 7 c ?_;refine z0c.tm 8 c ?_;refine z0c.tm 9 c ?_
   try simp only[Act.put,tryL]
   refine z0c.on 10 fun K J=>?_;go_simp;obtain⟨wy,S⟩:=exq (h.alloc (.cells #[.int .i64 (ai),.int .i64 (ao),.string (aw),.int .i64 (q:Int)] 59));have b5:Below h.heap.size h wy:=by rw[S];exact(Below.refl _ h).alloc nlr _
   have d9:wy.heap[h.heap.size]?=some (.cells #[.int .i64 (ai),.int .i64 (ao),.string (aw),.int .i64 (q:Int)] 59 (0,0)):=by rw[S];exact heap_alloc_new h _
   have x6:wy.heap.size=h.heap.size+1:=by rw[S];simp
   have a7:=(b5.block _ (lt_of_block L.out)).trans L.out;have l:=(b5.block _ (lt_of_block T.out)).trans T.out;have X:wy.cell? ⟨k,3,none⟩=some (.slice (some ⟨g,0,none⟩) (n+1) (n+1))/\wy.cell? ⟨g,Q*2+1,none⟩=some (.slice ra ((revA D q d (revQ D q)).na Q) rc)/\wy.cell? ⟨ab,0,none⟩=some (.int .i64 ai)/\wy.cell? ⟨ab,1,none⟩=some (.int .i64 ao)/\wy.cell? ⟨ab,2,none⟩=some (.string aw)/\wy.cell? ⟨ab,3,none⟩=some (.int .i64 (q:Int)):=⟨(cells4 a7).1.2.2.2,b5.cell (World.ownsRow.lt d7.out.top g rfl).2 |>.trans c.2.1,by simp[World.cell?,l],by simp[World.cell?,l],by simp[World.cell?,l],by simp[World.cell?,l]⟩
   have a2:wy.ownsRow w.heap.size 59 4 (.slice ra ((revA D q d (revQ D q)).na Q) rc) ((revA D q d (revQ D q)).na Q) (cat (arc4 (revA D q d (revQ D q)) Q) ((revA D q d (revQ D q)).na Q)):=by rw[S,<- b4.out];exact World.ownsRow.alloc (d7.out.row Q b6) _
   have s4:w.heap.size<=wy.heap.size:=by omega
   obtain⟨H,hH⟩:=exq (h.heap.size);rw[<- hH] at d9 x6;rw[<- S,<- hH];have g4:=qh S;clear S;have D4:=qh hH;clear hH;have uu7:=qh d9;clear d9;have y3:=qh a7;clear a7;have uu5:=qh l;clear l;clear b5;refine J.out _ _ (.inr X) ?_;clear J K c
   try simp only[Act.put,tryL]
   refine z0c.on 11 fun K J=>?_;refine wp_append_lies _ (.tmp 53) (.tmp 55) 55 rfl w.heap.size 59 i0 (.agg #[.int .i64 0,.int .i64 0,.string ⟨#[]⟩,.int .i64 0]) 4 40 underlying55 HI.out y7.out A7.out z8.out rfl (by omega) (.slice ra ((revA D q d (revQ D q)).na Q) rc) ((revA D q d (revQ D q)).na Q) _ (by simp[Act.eval]) a2 ⟨H,0,none⟩ 1 1 [.int .i64 (ai),.int .i64 (ao),.string (aw),.int .i64 (q:Int)] (by simp[Act.eval]) rfl (y7x (cs:=#[.int .i64 (ai),.int .i64 (ao),.string (aw),.int .i64 (q:Int)]) uu7.out) y7i (by omega) (by unfold maxLen;omega) (by omega) s4 _ rfl ?_;intro go cq we a5 a4 i7 l5;have j1:=v1j (o:=.cells #[.int .i64 (ai),.int .i64 (ao),.string (aw),.int .i64 (q:Int)] 59) v9 d7.out b6 a5 (by rw[<- g4.out,b4.out];exact a4) (by rw[<- g4.out,b4.out];exact i7.imp id (fun e=>Nat.le_of_eq e.symm));obtain⟨i3,⟨d5,x5⟩,a9,g6⟩:=j1;have W:=(a9 k (N.out k (p9.out k (b1.out k b2.out)))).1.trans L.out;have E:=(a9 ab (N.out ab A6.out)).1.trans T.out;rw[b4.out] at d5;have b9:we.cell? ⟨k,3,none⟩=some (.slice (some ⟨g,0,none⟩) (n+1) (n+1))/\we.cell? ⟨g,Q*2+1,none⟩=some (.slice ra ((revA D q d (revQ D q)).na Q) rc)/\we.cell? ⟨ab,0,none⟩=some (.int .i64 ai)/\we.cell? ⟨ab,1,none⟩=some (.int .i64 ao)/\we.cell? ⟨ab,2,none⟩=some (.string aw)/\we.cell? ⟨ab,3,none⟩=some (.int .i64 (q:Int)):=⟨(cells4 W).1.2.2.2,d5,by simp[World.cell?,E],by simp[World.cell?,E],by simp[World.cell?,E],by simp[World.cell?,E]⟩;have s:RvN F3 w.heap.size g (n+1) ((revA D q d (revQ D q)).arc Q (ai) (ao) (aw) (q:Int)) w6 (we.setCell ⟨g,Q*2+1,none⟩ (.slice (some ⟨go,0,none⟩) ((revA D q d (revQ D q)).na Q+1) cq)) :=
    ⟨⟨_,i3,fun b hb=>(a9 b (N.out b hb)).2.2⟩,fun b hb=>(a9 b (N.out b hb)).2.1.trans (c7.out.block b (s3.out b hb)),(c7.out.mono m7).trans g6⟩
   have d2:=qh s;clear s i3 a9 g6 W E a5 a4 i7 l5 a2;refine J.out _ _ (.inr b9) ?_;clear J K X
   try simp only[Act.put,tryL]
   refine z0c.tm 12 b9 ?_;refine z0c.tm 13 b9 ?_
   try simp only[Act.put,tryL]
   refine z0c.on 14 fun K J=>?_;go_simp;refine J.out _ _ (.inl rfl) (z0c.dn ?_);clear J K b9 d5 x5;obtain⟨wf,Z⟩:=exq (we.setCell ⟨g,Q*2+1,none⟩ (.slice (some ⟨go,0,none⟩) ((revA D q d (revQ D q)).na Q+1) cq));have s:=d2.out;rw[<- Z] at s;rw[<- Z];clear Z;have d4:RvN F2 w.heap.size g (n+1) (revA D q (d+1) (revQ D q)) w5 wf:=by
    have e:revA D q (d+1) (revQ D q)=(revA D q d (revQ D q)).arc Q ai ao aw (q:Int):=by
     show (revA D q d (revQ D q)).arc (D.ato q d).toNat (D.ain q d) (D.aout q d) (D.aw q d) (q:Int)=_;rw[C8.out,<- D2.out,<- C0.out,<- E6.out];rfl
    rw[e];exact s5.out.trans (s.sub p9.out)
   have i6:=qh d4;clear d4 s d2;go_wp2;go_roundw
   case rel=>exact⟨d+1,by omega,by go_num,i6.out⟩
   simp[intOf];omega
  have D5:nq=d:=by omega
  subst D5;have B1:¬ ((nq:Int)<(nq:Int)):=by omega
  have s0:wr.cell? ⟨sb,0,none⟩=some (.string fq):=by simp[World.cell?,e1]
  have r8:=qh U;clear U;have o9:=qh e1;clear e1;have d0:RvN F w.heap.size g (n+1) (revA D q nq (revQ D q)) wb wr:=⟨u.out.1.sub b1.out,fun b hb=>(u.out.2.1 b (b1.out b hb)).trans (b8.out.2.1 b hb),b8.out.2.2.trans u.out.2.2⟩;have b3:=qh d0;clear d0 a6 g2;by_cases e9:fq=⟨#[]⟩
  ·have g9:revQ D (q+1)=revA D q nq (revQ D q):=by
    show revF D q (revA D q (D.na q) (revQ D q))=_;unfold revF;rw[if_pos (by rw[<- t7.out];exact e9),j0.out]
   have hB:=b3.out;rw[<- g9] at hB;have y1:=qh hB;clear hB g9 b3 u;subst e9;go_wp2;go_roundw
   case rel=>exact⟨q+1,by omega,by go_num,y1.out⟩
   simp[intOf];omega
  have F8:(fq.toList==[])=false:=by
   cases hE:(fq.toList==[])
   ·rfl
   exact absurd (z7g hE) e9
  have g9:revQ D (q+1)=(revA D q nq (revQ D q)).arc n 0 0 fq (q:Int):=by
   show revF D q (revA D q (D.na q) (revQ D q))=_;unfold revF;rw[if_neg (by rw[<- t7.out];exact e9),j0.out,t7.out,HN.out]
  have b6:n<(revA D q nq (revQ D q)).n:=by rw[z9];omega
  have i2:n<=n:=nlr;have B4:=e5 n;have c9:∀ b,F2 b->b<wr.heap.size:=u.out.1.lt;have x3:=qh u.out.1;have E3:=qh g9;clear g9;have s3:=qh c9;clear c9 e5;have F5:=qh e9;clear e9;obtain⟨R,Y,G⟩:=x3.out;obtain⟨ra,rc,e0,_,_⟩:=z0y (Y.row n b6);obtain⟨h,z⟩:=exq (wr.drew);have a3:Fr (fun _=>False) wr h:=by rw[z];exact(Fr.refl _ _).drew
  have j:Below wr.heap.size wr h:=a3.below nlr (fun _ e=>e.elim);have b0:OwM h w.heap.size (.slice (some ⟨g,0,none⟩) (revA D q nq (revQ D q)).n (n+1)) (revA D q nq (revQ D q)) R:=Y.kept (z0b j none) (by simp);have a8:∀ b,F2 b->Fre h (.slice (some ⟨g,0,none⟩) (revA D q nq (revQ D q)).n (n+1)) R (revA D q nq (revQ D q)).n b:=fun b hb=>⟨Nat.lt_of_lt_of_le (G b hb).1 j.size,(G b hb).2⟩;have I:=(a3.block _ (lt_of_block r8.out) (fun e=>e)).trans r8.out;have m:=(a3.block _ (lt_of_block o9.out) (fun e=>e)).trans o9.out;have v9:w.heap.size<=h.heap.size:=Nat.le_trans p0 j.size;have f7:h.cell? ⟨g,n*2+1,none⟩=some (.slice ra ((revA D q nq (revQ D q)).na n) rc):=by rw[b0.arcs_cell b6,e0]
  have c:h.cell? ⟨k,3,none⟩=some (.slice (some ⟨g,0,none⟩) (n+1) (n+1))/\h.cell? ⟨g,n*2+1,none⟩=some (.slice ra ((revA D q nq (revQ D q)).na n) rc)/\h.cell? ⟨sb,0,none⟩=some (.string fq):=⟨(cells4 I).1.2.2.2,f7,by simp[World.cell?,m]⟩;have C3:(n:Int)<(n:Int)+1:=by have:=i2;omega
  have A0:(0:Int)<=(n:Int):=by omega
  have d7:=qh b0;clear b0 Y;have N:=qh a8;clear a8 G;have b4:=qh e0;clear e0;have L:=qh I;clear I;have T:=qh m;clear m f7;have c7:=qh j;clear j a3
  go_wp2_with fail
  refine z0g (fun wk=>wk.cell? ⟨k,3,none⟩=some (.slice (some ⟨g,0,none⟩) (n+1) (n+1))/\wk.cell? ⟨g,n*2+1,none⟩=some (.slice ra ((revA D q nq (revQ D q)).na n) rc)/\wk.cell? ⟨sb,0,none⟩=some (.string fq)) 17 (by kernel_rfl) ?_;rw[<- z];clear z s0;refine z0c.tm 0 c ?_;refine z0c.tm 1 c ?_;refine z0c.tm 2 c ?_;refine z0c.tm 3 c ?_;refine z0c.tm 4 c ?_;refine z0c.tm 5 c ?_;refine z0c.tm 6 c ?_;refine z0c.tm 7 c ?_;refine z0c.tm 8 c ?_;refine z0c.tm 9 c ?_;refine z0c.tm 10 c ?_;refine z0c.tm 11 c ?_;refine z0c.tm 12 c ?_
  try simp only[Act.put,tryL]
  refine z0c.on 13 fun K J=>?_;go_simp;obtain⟨wy,S⟩:=exq (h.alloc (.cells #[.int .i64 (0),.int .i64 (0),.string (fq),.int .i64 (q:Int)] 59));have b5:Below h.heap.size h wy:=by rw[S];exact(Below.refl _ h).alloc nlr _
  have d9:wy.heap[h.heap.size]?=some (.cells #[.int .i64 (0),.int .i64 (0),.string (fq),.int .i64 (q:Int)] 59 (0,0)):=by rw[S];exact heap_alloc_new h _
  have x6:wy.heap.size=h.heap.size+1:=by rw[S];simp
  have a7:=(b5.block _ (lt_of_block L.out)).trans L.out;have l:=(b5.block _ (lt_of_block T.out)).trans T.out;have X:wy.cell? ⟨k,3,none⟩=some (.slice (some ⟨g,0,none⟩) (n+1) (n+1))/\wy.cell? ⟨g,n*2+1,none⟩=some (.slice ra ((revA D q nq (revQ D q)).na n) rc)/\wy.cell? ⟨sb,0,none⟩=some (.string fq):=⟨(cells4 a7).1.2.2.2,b5.cell (World.ownsRow.lt d7.out.top g rfl).2 |>.trans c.2.1,by simp[World.cell?,l]⟩
  have a2:wy.ownsRow w.heap.size 59 4 (.slice ra ((revA D q nq (revQ D q)).na n) rc) ((revA D q nq (revQ D q)).na n) (cat (arc4 (revA D q nq (revQ D q)) n) ((revA D q nq (revQ D q)).na n)):=by rw[S,<- b4.out];exact World.ownsRow.alloc (d7.out.row n b6) _
  have s4:w.heap.size<=wy.heap.size:=by omega
  obtain⟨H,hH⟩:=exq (h.heap.size);rw[<- hH] at d9 x6;rw[<- S,<- hH];have g4:=qh S;clear S;have D4:=qh hH;clear hH;have uu7:=qh d9;clear d9;have y3:=qh a7;clear a7;have uu5:=qh l;clear l;clear b5;refine J.out _ _ (.inr X) ?_;clear J K c
  try simp only[Act.put,tryL]
  refine z0c.on 14 fun K J=>?_;refine wp_append_lies _ (.tmp 71) (.tmp 76) 55 rfl w.heap.size 59 i0 (.agg #[.int .i64 0,.int .i64 0,.string ⟨#[]⟩,.int .i64 0]) 4 40 underlying55 HI.out y7.out A7.out z8.out rfl (by omega) (.slice ra ((revA D q nq (revQ D q)).na n) rc) ((revA D q nq (revQ D q)).na n) _ (by simp[Act.eval]) a2 ⟨H,0,none⟩ 1 1 [.int .i64 (0),.int .i64 (0),.string (fq),.int .i64 (q:Int)] (by simp[Act.eval]) rfl (y7x (cs:=#[.int .i64 (0),.int .i64 (0),.string (fq),.int .i64 (q:Int)]) uu7.out) y7i (by omega) (by unfold maxLen;omega) (by omega) s4 _ rfl ?_;intro go cq we a5 a4 i7 l5;have j1:=v1j (o:=.cells #[.int .i64 (0),.int .i64 (0),.string (fq),.int .i64 (q:Int)] 59) v9 d7.out b6 a5 (by rw[<- g4.out,b4.out];exact a4) (by rw[<- g4.out,b4.out];exact i7.imp id (fun e=>Nat.le_of_eq e.symm));obtain⟨i3,⟨d5,x5⟩,a9,g6⟩:=j1;have W:=(a9 k (N.out k (b1.out k b2.out))).1.trans L.out;have E:=(a9 sb (N.out sb n9.out)).1.trans T.out;rw[b4.out] at d5;have b9:we.cell? ⟨k,3,none⟩=some (.slice (some ⟨g,0,none⟩) (n+1) (n+1))/\we.cell? ⟨g,n*2+1,none⟩=some (.slice ra ((revA D q nq (revQ D q)).na n) rc)/\we.cell? ⟨sb,0,none⟩=some (.string fq):=⟨(cells4 W).1.2.2.2,d5,by simp[World.cell?,E]⟩;have s:RvN F2 w.heap.size g (n+1) ((revA D q nq (revQ D q)).arc n (0) (0) (fq) (q:Int)) wr (we.setCell ⟨g,n*2+1,none⟩ (.slice (some ⟨go,0,none⟩) ((revA D q nq (revQ D q)).na n+1) cq)) :=
   ⟨⟨_,i3,fun b hb=>(a9 b (N.out b hb)).2.2⟩,fun b hb=>(a9 b (N.out b hb)).2.1.trans (c7.out.block b (s3.out b hb)),(c7.out.mono p0).trans g6⟩
  have d2:=qh s;clear s i3 a9 g6 W E a5 a4 i7 l5 a2;refine J.out _ _ (.inr b9) ?_;clear J K X
  try simp only[Act.put,tryL]
  refine z0c.tm 15 b9 ?_;refine z0c.tm 16 b9 ?_
  try simp only[Act.put,tryL]
  refine z0c.on 17 fun K J=>?_;go_simp;refine J.out _ _ (.inl rfl) (z0c.dn ?_);clear J K b9 d5 x5;obtain⟨wf,Z⟩:=exq (we.setCell ⟨g,n*2+1,none⟩ (.slice (some ⟨go,0,none⟩) ((revA D q nq (revQ D q)).na n+1) cq));have s:=d2.out;rw[<- Z,<- E3.out] at s;rw[<- Z];clear Z;have d4:RvN F w.heap.size g (n+1) (revQ D (q+1)) wb wf:=b3.out.trans (s.sub b1.out);have i6:=qh d4;clear d4 s d2;go_wp2;go_roundw
  case rel=>exact⟨q+1,by omega,by go_num,i6.out⟩
  simp[intOf];omega
 have D8:n=q:=by omega
 subst D8;have B1:¬ ((n:Int)<(n:Int)):=by omega
 have U:=(b7.out.2.1 k b2.out).trans A3.out;have g0:=(b7.out.2.1 mb E2.out).trans C4.out;have d3:=l0.out.trans b7.out.2.2;obtain⟨st,y2⟩:∃ st:Nat,D.start=(st:Int):=⟨D.start.toNat,by have:=HV.out.s0;omega⟩;have p6:D.start.toNat=st:=by omega
 have E7:st<n:=by have:=HV.out.s1;have:=HN.out;omega
 obtain⟨h,z⟩:=exq (wr.drew);have a3:Fr (fun _=>False) wr h:=by rw[z];exact(Fr.refl _ _).drew
 have j:Below wr.heap.size wr h:=a3.below nlr (fun _ e=>e.elim);have o2:=b7.out.1.kept j;have I:=(j.block _ (lt_of_block U)).trans U;have d1:=(j.block _ (lt_of_block g0)).trans g0;have f5:=d3.trans (j.mono d3.size);rw[y2] at d1;have c:h.cell? ⟨k,3,none⟩=some (.slice (some ⟨g,0,none⟩) (n+1) (n+1))/\h.cell? ⟨mb,0,none⟩=some (.int .i64 D.kind)/\h.cell? ⟨mb,1,none⟩=some (.int .i64 (st:Int)):=⟨(cells4 I).1.2.2.2,(cells4 d1).1.1,(cells4 d1).1.2.1⟩;have k9:(st:Int)<(n:Int)+1:=by omega
 have F1:(0:Int)<=(st:Int):=by omega
 have z6:=qh o2;clear o2;have L:=qh I;clear I U;have p8:=qh d1;clear d1 g0;have c8:=qh f5;clear f5 d3 j a3;have F7:=qh y2;clear y2;have y4:=qh p6;clear p6
 go_wp2_with fail
 refine z0g (fun wk=>wk.cell? ⟨k,3,none⟩=some (.slice (some ⟨g,0,none⟩) (n+1) (n+1))/\wk.cell? ⟨mb,0,none⟩=some (.int .i64 D.kind)/\wk.cell? ⟨mb,1,none⟩=some (.int .i64 (st:Int))) 9 (by kernel_rfl) ?_;rw[<- z];clear z;refine z0c.tm 0 c ?_;refine z0c.tm 1 c ?_;refine z0c.tm 2 c ?_;refine z0c.tm 3 c ?_;refine z0c.tm 4 c ?_;refine z0c.tm 5 c ?_
 try simp only[Act.put,tryL]
 refine z0c.on 6 fun K J=>?_;go_simp;refine(z6w D.kind h).mono ?_;rintro r we ⟨rfl,g7⟩;have z1:=z6.out.kept g7;have W:=(g7.block _ (lt_of_block L.out)).trans L.out;have h7:=(g7.block _ (lt_of_block p8.out)).trans p8.out;have r5:=c8.out.trans (g7.mono c8.out.size);have X:we.cell? ⟨k,3,none⟩=some (.slice (some ⟨g,0,none⟩) (n+1) (n+1))/\we.cell? ⟨mb,0,none⟩=some (.int .i64 D.kind)/\we.cell? ⟨mb,1,none⟩=some (.int .i64 (st:Int)):=⟨(cells4 W).1.2.2.2,(cells4 h7).1.1,(cells4 h7).1.2.1⟩;obtain⟨R,Y,G⟩:=z1;have d6:(revQ D n).n=n+1:=by rw[(z1m D n).n,HN.out];rfl
 have D7:we.cell? ⟨g,st*2,none⟩=some (.string ((revQ D n).fin st)):=Y.fin_cell (by rw[d6];omega);have C2:=z5z Y.top (st*2);have a1:=Y.setFin (q:=st) (by rw[d6];omega) (oneF D.kind);have r9:k≠g:=fun e=>(G k b2.out).2.1 (by rw[e];rfl);have s7:=World.ownsRow.lt Y.top g rfl;refine J.out _ _ (.inr X) ?_;clear J K c g7;obtain⟨on,l8⟩:=exq (oneF D.kind);rw[<- l8] at a1;rw[<- l8];have D0:=qh l8;clear l8;have q9:=qh a1;clear a1 Y;have B5:=qh W;clear W;have y5:=qh r5;clear r5 h7;have j7:=qh d6;clear d6;have N:=qh G;clear G
 try simp only[Act.put,tryL]
 refine z0c.tm 7 X ?_;refine z0c.tm 8 X ?_
 try simp only[Act.put,tryL]
 refine z0c.on 9 fun K J=>?_;go_simp;refine J.out _ _ (.inl rfl) (z0c.dn ?_);clear J K X D7 C2;obtain⟨wf,Z⟩:=exq (we.setCell ⟨g,st*2,none⟩ (.string on));have i4:(revQ D n).setFin st on=revD D:=by
  unfold revD;rw[y4.out,<- HN.out,<- D0.out]
 have a1:=q9.out;rw[<- Z,i4] at a1;have h5:wf.heap[k]?=some (.cells #[.int .i64 D.kind,.int .i64 (n:Int),.string D.lead,.slice (some ⟨g,0,none⟩) (n+1) (n+1)] 24 (0,0)):=by rw[Z,z0e r9];exact B5.out
 have i5:Below w.heap.size w wf:=by rw[Z];exact y5.out.setCell (p:=⟨g,st*2,none⟩) s7.1 _
 rw[<- Z];clear Z i4 s7 r9;have n5:(revD D).kind=D.kind:=(z1m D D.n).kind;have m8:(revD D).start=(n:Int):=by rw[HN.out];exact(z1m D D.n).start
 have p7:(revD D).lead=D.lead:=(z1m D D.n).lead;have o4:Ma none wf (.agg #[.int .i64 D.kind,.int .i64 (n:Int),.string D.lead,.slice (some ⟨g,0,none⟩) (n+1) (n+1)]) (revD D):=by
  refine⟨.slice (some ⟨g,0,none⟩) (n+1) (n+1),by rw[n5,m8,p7],?_⟩;have h1:=a1.sts;rw[show (revQ D n).n=n+1 from j7.out] at h1;exact h1
 have y9:=qh (z2g wf o4 (z6h HV.out uu9.out) (HT.out.below i5 nlr));obtain⟨⟨r0,r1,r2,r3⟩,_⟩:=cells4 h5;have h0:OwM wf w.heap.size (.slice (some ⟨g,0,none⟩) (n+1) (n+1)) (revD D) R:=by
  have h1:=a1;rw[show (revQ D n).n=n+1 from j7.out] at h1;exact h1
 have w8:=qh h0;clear h0 a1 q9;have n7:=qh h5;clear h5;have h3:=qh i5;clear i5 o4 n5 m8 p7
 go_wp2_with fail
 clear r0 r1 r2 r3;refine y9.out.mono ?_;rintro r wg ⟨l2,hr⟩;have i9:=(l2.block _ (lt_of_block n7.out)).trans n7.out;have y0:=qh (w8.out.kept (z0b l2 none) (by simp));have A5:=qh (h3.out.trans (l2.mono h3.out.size));clear l2 y9 h3;obtain⟨⟨r0,r1,r2,r3⟩,rz⟩:=cells4 i9;have f0:=rz 0;have f1:=rz 1;have f2:=rz 2;have f3:=rz 3;clear rz;have i8:=qh i9;clear i9
 rcases hr with ⟨hq,rfl⟩|⟨hq,rfl⟩
 ·have HQ:=qh hq;clear hq;have y1:=qh (y0.out.box4 i8.out (.int .i64 D.kind) (.int .i64 (n:Int)) (.string D.lead) (.slice (some ⟨g,0,none⟩) (n+1) (n+1)))
  go_wp2_with fail
  refine bodyPost_ret (z0j rfl _ (b:=k) rfl rfl (z0v wg k _ _ _ _ i8.out)) rfl ⟨z0d A5.out l9 _ _ _ _,.inl ⟨HV.out,HQ.out,.slice (some ⟨g,0,none⟩) (n+1) (n+1),R,?_,y1.out⟩⟩;rw[<- HN.out];rfl
 have HQ:=qh hq;clear hq
 go_wp2_with fail
 exact bodyPost_ret (z0j rfl _ (b:=k) rfl rfl (z0v wg k _ _ _ _ i8.out)) rfl ⟨z0d A5.out l9 _ _ _ _,.inr (.inl ⟨HV.out,HQ.out,rfl⟩)⟩
end
section
open Go.RowKit Go.Deep
theorem u0v {z B H n:Nat} {u s:Nat->Int} (w:World) (h:R2P z B H n u s w) (i o:Int) (C:0<=i) (G:i<=500) (k0:0<=o) (E:o<=500) :
  Calls prog 71 #[.int .i64 i,.int .i64 o,.pointer (some ⟨z,0,none⟩)] w (fun r w'=>r=.returned (.tuple #[.int .i64 (mapF n u s i),.int .i64 (mapF n u s o)])/\Below w.heap.size w w'):=by
 obtain⟨p,g⟩:=exq (w.drew);have hf:Fr (fun _=>False) w p:=by rw[g];exact(Fr.refl _ _).drew
 have A:=h.kept hf (fun e=>e) (fun e=>e) (fun e=>e);have c:p.cell? ⟨z,0,none⟩=some (.func (.func 70) #[] #[.pointer (some ⟨B,0,none⟩)]):=by simp[World.cell?,A.1]
 have m:=qh (v2f p A.2 i C G);have j:=qh (v2f p A.2 o k0 E);have I:=qh (hf.below nlr (fun _ e=>e.elim));clear hf A h C G k0 E;obtain⟨D,l⟩:=exq (mapF n u s i);obtain⟨F,k⟩:=exq (mapF n u s o);rw[<- l,<- k];rw[<- l] at m;rw[<- k] at j;clear l k
 go_enter func71,ntmps71
 go_wp2_with fail
 refine z0g (fun J=>J.cell? ⟨z,0,none⟩=some (.func (.func 70) #[] #[.pointer (some ⟨B,0,none⟩)])) 7 (by kernel_rfl) ?_;rw[<- g];clear g;refine z0c.tm 0 c ?_;refine z0c.tm 1 c ?_;refine z0c.tm 3 c ?_;refine z0c.tm 4 c ?_
 try simp only[Act.put,tryL]
 refine z0c.on 2 fun K d=>?_;go_simp;refine m.out.mono ?_;rintro r L ⟨rfl,rfl⟩;refine d.out _ _ (.inr c) ?_;clear d K m
 try simp only[Act.put,tryL]
 refine z0c.on 5 fun K d=>?_;go_simp;refine j.out.mono ?_;rintro r N ⟨rfl,rfl⟩;refine d.out _ _ (.inr c) ?_;clear d K j
 try simp only[Act.put,tryL]
 refine z0c.on 6 fun K d=>?_;go_simp;refine d.out _ _ (.inr c) ?_;clear d K
 try simp only[Act.put,tryL]
 refine z0c.on 7 fun K d=>?_;go_simp;refine d.out _ _ (.inl rfl) (z0c.dn ?_);clear d K;go_wp2;go_ret2;exact⟨rfl,I.out⟩
theorem u0r (j u l n:Nat) (g d:Nat->Int):SymF 71 #[.pointer (some ⟨j,0,none⟩)] (fun i o=>(mapF n g d i,mapF n g d o)) (R2P j u l n g d) :=
 ⟨v5g,fun w h i o k p s m=>by
  rw[show ∀ a b c:Value,(#[a,b]++#[c]:Array Value)=#[a,b,c] from fun _ _ _=>rfl];exact u0v w h i o k p s m⟩
end
section
open Go.RowKit Go.Deep
structure RnI (w0 wr:World) (mb rb ob pb n q:Nat) (mc:Array Value) (pi po:Nat->Int):Prop where
 kb:wr.heap[mb]?=some (.cells mc 24 (0,0))
 kr:wr.heap[rb]?=some (.cells #[.int .i64 0,.int .i64 0,.string ⟨#[]⟩,.slice none 0 0] 24 (0,0))
 rp:R1P ob pb q pi po wr
 be:Below w0.heap.size w0 wr
 lr:w0.heap.size<=rb
 lo:w0.heap.size<=ob
 lp:w0.heap.size<=pb
theorem RnI.new {j w i:World} {c rb m d n q:Nat} {k:Array Value} {l g:Nat->Int} (h:RnI j w c rb m d n q k l g) (hf:Fr (fun _=>False) w i):RnI j i c rb m d n q k l g :=
 ⟨(hf.block c (lt_of_block h.kb) (fun e=>e)).trans h.kb,(hf.block rb (lt_of_block h.kr) (fun e=>e)).trans h.kr,h.rp.kept hf (fun e=>e) (fun e=>e),h.be.trans (hf.below h.be.size (fun _ e=>e.elim)),h.lr,h.lo,h.lp⟩
theorem x6m {D:MD} {mv lv:Value} {n:Nat} {m u:Nat->Int} (w:World) (hM:Ma none w mv D) (e9:MSz D) (hL:PrS none w lv n m u) (hn:n<=1000) (ht:Tab w) :
  Calls prog 32 #[mv,lv] w (MkE (VM D/\RenOk n m u) (D.ren (mapF n m u)) 1 w):=by
 obtain⟨sv,rfl,hS⟩:=hM;obtain⟨a,cp,_,_,_,_,_,_,d4,_⟩:=hS.open;subst d4;obtain⟨al,cl,bl,ol,k2,i6,j7,j0,g6,a4⟩:=hL.open;subst k2;obtain⟨w1,Q⟩:=exq (w.alloc (.cells #[.int .i64 D.kind,.int .i64 D.start,.string D.lead,.slice a D.n cp] 24));obtain⟨w2,W⟩:=exq (w1.alloc (.cells #[.int .i64 0,.int .i64 0,.string ⟨#[]⟩,.slice none 0 0] 24));have g8:w1.heap.size=w.heap.size+1:=by rw[Q];simp
 have h8:Fr (fun _=>False) w w1:=by rw[Q];exact Fr.alloc _ _
 have f9:Fr (fun _=>False) w1 w2:=by rw[W];exact Fr.alloc _ _
 obtain⟨mb,b1⟩:=exq (w.heap.size);obtain⟨B,g0⟩:=exq (w.heap.size+1);obtain⟨mc,e2⟩:∃ mc:Array Value,mc=#[.int .i64 D.kind,.int .i64 D.start,.string D.lead,.slice a D.n cp]:=⟨_,rfl⟩;have f7:w1.heap[mb]?=some (.cells #[.int .i64 D.kind,.int .i64 D.start,.string D.lead,.slice a D.n cp] 24 (0,0)):=by rw[Q,b1];exact heap_alloc_new w _
 have d5:w2.heap[mb]?=some (.cells #[.int .i64 D.kind,.int .i64 D.start,.string D.lead,.slice a D.n cp] 24 (0,0)):=(f9.block _ (lt_of_block f7) (fun e=>e)).trans f7;have g5:w2.heap[B]?=some (.cells #[.int .i64 0,.int .i64 0,.string ⟨#[]⟩,.slice none 0 0] 24 (0,0)):=by rw[g0,<- g8,W];exact heap_alloc_new w1 _
 have b3:Below w.heap.size w w2:=(h8.trans f9).below nlr (fun _ e=>e.elim);have L:w.heap.size<=B:=by omega
 have l1:mb≠B:=by omega
 obtain⟨⟨m0,m1,m2,m3⟩,_⟩:=cells4 d5;have j2:=qh (z2g w2 (⟨_,rfl,hS.kept (z0b b3 none)⟩:Ma none w2 (.agg #[.int .i64 D.kind,.int .i64 D.start,.string D.lead,.slice a D.n cp]) D) e9 (ht.below b3 nlr));have HS:=qh hS;clear hS;have k1:=qh e9;clear e9;have HT:=qh ht;clear ht;have HA:=qh i6;clear i6;have i5:=qh g6;clear g6;have h0:=qh a4;clear a4 hL;have K:=qh g5;clear g5;have e6:=qh d5;clear d5 f7;have e8:=qh b3;clear b3 h8 f9 g8;clear j7 j0;have l0:=@run_makeMap prog;rw[W,Q] at m0 m1 m2 m3;rw[b1] at m0 m1 m2 m3
 go_enter func32,ntmps32
 go_wp2_with fail
 rw[<- Q,<- W,<- g0,<- b1];clear m0 m1 m2 m3 Q W g0 b1;refine j2.out.mono ?_;rintro r w4 ⟨b2,hr⟩;have i2:=(b2.block _ (lt_of_block e6.out)).trans e6.out;have Z:=(b2.block _ (lt_of_block K.out)).trans K.out;have T:=qh (e8.out.trans (b2.mono e8.out.size));clear b2 e6 K j2 e8;have a8:=qh i2;clear i2;have E:=qh Z;clear Z
 rcases hr with ⟨hv,rfl⟩|⟨hv,rfl⟩
 rotate_left
 ·have HV:=qh hv;clear hv;obtain⟨⟨r0,r1,r2,r3⟩,G⟩:=cells4 E.out;have f0:=G 0;have f1:=G 1;have f2:=G 2;have f3:=G 3;clear G
  go_wp2_with fail
  exact bodyPost_ret (z0j rfl _ (b:=B) rfl rfl (z0v w4 B _ _ _ _ E.out)) rfl ⟨z0d T.out L _ _ _ _,.inr ⟨fun h=>HV.out h.1,rfl⟩⟩
 have HV:=qh hv;clear hv;obtain⟨S,d2⟩:=exq (w4.heap.size);obtain⟨w5,Y⟩:=exq (w4.alloc (.map #[] 0));obtain⟨w6,b0⟩:=exq (w5.alloc (.cells #[.map (some S)] 91));have g9:w5.heap.size=w4.heap.size+1:=by rw[Y];simp
 obtain⟨ob,e7⟩:=exq (w4.heap.size+1);have g3:Fr (fun _=>False) w4 w5:=by rw[Y];exact Fr.alloc _ _
 have g2:Fr (fun _=>False) w5 w6:=by rw[b0];exact Fr.alloc _ _
 have b7:MpM w5 S 0 m u:=by rw[Y,d2];exact MpM.made w4 m u
 have g4:w6.heap[ob]?=some (.cells #[.map (some S)] 91 (0,0)):=by rw[e7,<- g9,b0];exact heap_alloc_new w5 _
 have a1:RnI w w6 mb B ob S n 0 mc m u:=by
  have d0:=g3.trans g2;rw[<- e2] at a8;exact⟨(d0.block mb (lt_of_block a8.out) (fun e=>e)).trans a8.out,(d0.block B (lt_of_block E.out) (fun e=>e)).trans E.out,⟨g4,b7.kept g2 (fun e=>e)⟩,T.out.trans (d0.below T.out.size (fun _ e=>e.elim)),L,by have:=T.out.size;omega,by have:=T.out.size;omega⟩
 have H:=qh a1;clear a1 g4 b7 g3 g2 g9 a8 E T
 go_wp2_with fail
 rw[<- e7,<- d2,<- Y,<- b0];clear d2 Y b0 e7;have j8:=qh e2;clear e2
 go_loopw [19] (fun e5 j5=>∃ q:Nat,q<=n/\e5=.int .i64 (q:Int)/\(∀ j,j<q->1<=m j/\m j<=500/\0<=u j/\u j<=500)/\RnI w j5 mb B ob S n q mc m u) (fun e5 _=>n-(intOf e5).toNat)
 case atStart=>exact⟨0,Nat.zero_le _,rfl,fun j hj=>absurd hj (Nat.not_lt_zero _),H.out⟩
 obtain⟨q,hq,rfl,i7,a1⟩:=hrel;clear H;have e3:=qh i7;clear i7;have H:=qh a1;clear a1;by_cases f4:q<n
 ·have l3:(q:Int)<(n:Int):=by omega
  have k6:(0:Int)<=(q:Int):=by omega
  obtain rfl:=HA.out (by omega);have c0:=(H.out.be.cell (p:=⟨bl,ol+q*2,none⟩) (i5.out (by omega)).1).trans (h0.out q f4).1;have c1:=(H.out.be.cell (p:=⟨bl,ol+q*2+1,none⟩) (i5.out (by omega)).1).trans (h0.out q f4).2;obtain⟨F,d8⟩:=exq (m q);obtain⟨J,f8⟩:=exq (u q);rw[<- d8] at c0;rw[<- f8] at c1;have a2:=qh d8;clear d8;have d1:=qh f8;clear f8;obtain⟨A,l⟩:=exq (wr.alloc (.cells #[.int .i64 F,.int .i64 J] 50));obtain⟨eb,i8⟩:=exq (wr.heap.size);have a7:Fr (fun _=>False) wr A:=by rw[l];exact Fr.alloc _ _
  have a6:A.heap[eb]?=some (.cells #[.int .i64 F,.int .i64 J] 50 (0,0)):=by rw[l,i8];exact heap_alloc_new wr _
  have P:=H.out.new a7;have e0:A.cell? ⟨eb,0,none⟩=some (.int .i64 F):=by simp[World.cell?,a6]
  have e1:A.cell? ⟨eb,1,none⟩=some (.int .i64 J):=by simp[World.cell?,a6]
  have o0:A.cell? ⟨ob,0,none⟩=some (.map (some S)):=by simp[World.cell?,P.rp.1]
  obtain⟨⟨r0,r1,r2,r3⟩,G⟩:=cells4 P.kr;have f0:=G 0;have f1:=G 1;have f2:=G 2;have f3:=G 3;have l6:=qh a6;clear a6;have d:=qh P;clear P;have b6:¬ (1<=F/\F<=500/\0<=J/\J<=500)->¬ RenOk n m u:=fun h hr=>h (by rw[a2.out,d1.out];exact hr q f4);have N:=qh b6;clear b6;rw[l] at e0 e1 o0 r0 r1 r2 r3 f0 f1 f2 f3;clear G;rw[i8] at e0 e1;by_cases h1:F<1
  ·have I:=qh (N.out (by omega))
   go_wp2_with fail
   rw[<- l];exact bodyPost_ret (z0j rfl _ (b:=B) rfl rfl (z0v A B _ _ _ _ d.out.kr)) rfl ⟨z0d d.out.be L _ _ _ _,.inr ⟨fun h=>I.out h.2,rfl⟩⟩
  have l7:decide (F<1)=false:=by simp;omega
  by_cases h5:(500:Int)<F
  ·have I:=qh (N.out (by omega));clear h1
   go_wp2_with fail
   rw[<- l];exact bodyPost_ret (z0j rfl _ (b:=B) rfl rfl (z0v A B _ _ _ _ d.out.kr)) rfl ⟨z0d d.out.be L _ _ _ _,.inr ⟨fun h=>I.out h.2,rfl⟩⟩
  have l5:decide ((500:Int)<F)=false:=by simp;omega
  by_cases h6:J<0
  ·have I:=qh (N.out (by omega));clear h1 h5
   go_wp2_with fail
   rw[<- l];exact bodyPost_ret (z0j rfl _ (b:=B) rfl rfl (z0v A B _ _ _ _ d.out.kr)) rfl ⟨z0d d.out.be L _ _ _ _,.inr ⟨fun h=>I.out h.2,rfl⟩⟩
  have k9:decide (J<0)=false:=by simp;omega
  by_cases g:(500:Int)<J
  ·have I:=qh (N.out (by omega));clear h1 h5 h6
   go_wp2_with fail
   rw[<- l];exact bodyPost_ret (z0j rfl _ (b:=B) rfl rfl (z0v A B _ _ _ _ d.out.kr)) rfl ⟨z0d d.out.be L _ _ _ _,.inr ⟨fun h=>I.out h.2,rfl⟩⟩
  have l2:decide ((500:Int)<J)=false:=by simp;omega
  have b9:1<=F/\F<=500/\0<=J/\J<=500:=by omega
  have HR:=qh b9;clear b9 h1 h5 h6 g;clear r0 r1 r2 r3 f0 f1 f2 f3;have a9:=d.out.rp.2.look (s:=F) (by have:=HR.out;omega) (by have:=HR.out;omega);rw[l] at a9;have b5:∀ j,j<q+1->1<=m j/\m j<=500/\0<=u j/\u j<=500:=fun j hj=>by
   by_cases e:j=q
   ·subst e;rw[<- a2.out,<- d1.out];exact HR.out
   exact e3.out j (by omega)
  have c8:=qh b5;clear b5;obtain⟨gd,g7⟩:∃ gd,gd=(mpO m u q F).getD 0:=⟨_,rfl⟩;rw[<- g7] at a9;clear g7;cases C:(mpO m u q F).isSome
  ·rw[C] at a9;obtain⟨D1,z,h9,h4⟩:=d.out.rp.2;rw[l] at z;have HM:=qh C;clear C;have a3:=qh z;clear z;have j3:=qh h9;clear h9;have j6:=qh h4;clear h4;have c7:=keyM (s:=F) (by have:=HR.out;omega) (by have:=HR.out;omega);have i3:=qh c7;clear c7;have h3:=u3f (s:=J) (by have:=HR.out;omega) (by have:=HR.out;omega);have j4:=qh h3;clear h3;have e4:=qh l
   go_wp2_with (at_mapUpdate;refine wpList_mapUpdate_own _ rfl _ _ _ 91 rfl 3 3 u2w underlying91 _ S q D1 rfl a3.out (by unfold maxLen;omega) _ _ (.int .i64 F) rfl rfl i3.out (.lit (.int .i64 J)) [] j4.out ?_;intro w8 X O;have j9:=qh X;clear X;have k0:=qh O;clear O)
   go_roundw
   case rel =>
    have h2:=k0.out;rw[<- e4.out] at h2;have b4:Fr (fun k=>k=S) A w8:=Fr.of_gb h2 (fun k e=>by cases e;rfl);have g:=d.out;have d7:∀ b c t f,A.heap[b]?=some (.cells c t f)->¬ b=S:=fun b c t f hb e=>g.rp.2.block hb e;have d6:mpO m u q (m q)=none:=by
     have:=HM.out;rw[a2.out] at this;cases e:mpO m u q (m q) with
     | none=>rfl
     | some t=>rw[e] at this;cases this
    refine⟨q+1,by omega,by go_num,c8.out,⟨(b4.block mb (lt_of_block g.kb) (d7 _ _ _ _ g.kb)).trans g.kb,(b4.block B (lt_of_block g.kr) (d7 _ _ _ _ g.kr)).trans g.kr,⟨(b4.block ob (lt_of_block g.rp.1) (d7 _ _ _ _ g.rp.1)).trans g.rp.1,MpM.put j3.out j6.out d6 (by rw[<- a2.out,<- d1.out];exact j9.out)⟩,g.be.trans (b4.below g.be.size (fun k e=>by rw[e];exact g.lp)),g.lr,g.lo,g.lp⟩⟩
   simp[intOf];omega
  rw[C] at a9;have HM:=qh C;clear C;have e4:=qh l;go_wp2;go_roundw
  case rel =>
   have g:=d.out;rw[e4.out] at g;refine⟨q+1,by omega,by go_num,c8.out,⟨g.kb,g.kr,⟨g.rp.1,g.rp.2.same (by rw[<- a2.out];exact HM.out)⟩,g.be,g.lr,g.lo,g.lp⟩⟩
  simp[intOf];omega
 have k5:q=n:=by omega
 have k7:¬ ((q:Int)<(n:Int)):=by omega
 have b8:RenOk n m u:=fun i hi=>e3.out i (by omega);have U:=H.out;rw[k5] at U;have j1:=qh b8;clear b8 e3 H;obtain⟨fb,g1⟩:=exq (wr.heap.size);obtain⟨A,l⟩:=exq (wr.alloc (.cells #[.func (.func 70) #[] #[.pointer (some ⟨ob,0,none⟩)]] 93));have a7:Fr (fun _=>False) wr A:=by rw[l];exact Fr.alloc _ _
 have i9:A.heap[fb]?=some (.cells #[.func (.func 70) #[] #[.pointer (some ⟨ob,0,none⟩)]] 93 (0,0)):=by rw[l,g1];exact heap_alloc_new wr _
 have g:=U.new a7;have d9:R2P fb ob S n m u A:=⟨i9,g.rp⟩;have f5:=g.kb;rw[j8.out] at f5;have d3:=z6p (φ:=fun i o=>(mapF n m u i,mapF n m u o)) A (⟨_,rfl,HS.out.kept (z0b g.be none)⟩:Ma none A (.agg #[.int .i64 D.kind,.int .i64 D.start,.string D.lead,.slice a D.n cp]) D) k1.out (HT.out.below g.be nlr) (u0r fb ob S n m u) d9 (fun wb hb=>d9.kept (Fr.of_below hb:Fr (fun _=>False) A wb) (fun e=>e) (fun e=>e) (fun e=>e));rw[u1a] at d3;obtain⟨⟨m0,m1,m2,m3⟩,_⟩:=cells4 f5;rw[l] at m0 m1 m2 m3;have i4:=qh d3;clear d3;have K:=qh g.kr;have a5:=qh g.be;clear g U d9 i9 f5 a7
 go_wp2_with fail
 rw[<- g1,<- l];clear m0 m1 m2 m3 g1 l;refine i4.out.mono ?_;rintro r w8 ⟨c9,hr⟩;have Z:=(c9.block _ (lt_of_block K.out)).trans K.out;have k4:=qh (a5.out.trans (c9.mono a5.out.size));have k3:w.heap.size<=A.heap.size:=a5.out.size;clear c9 K i4 a5;have E:=qh Z;clear Z;obtain⟨⟨r0,r1,r2,r3⟩,G⟩:=cells4 E.out;have f0:=G 0;have f1:=G 1;have f2:=G 2;have f3:=G 3;clear G
 rcases hr with ⟨_,l4,R,rfl,z⟩|⟨d6,_⟩
 rotate_left
 ·exact absurd HV.out d6
 obtain⟨sa,sc,d4,_,_⟩:=z0y z.top;subst d4;have a3:=qh (z3s (z.box4 E.out (.int .i64 (D.ren (mapF n m u)).kind) (.int .i64 (D.ren (mapF n m u)).start) (.string (D.ren (mapF n m u)).lead) (.slice sa (D.ren (mapF n m u)).n sc)) k3);clear z
 go_wp2_with fail
 exact bodyPost_ret (z0j rfl _ (b:=B) rfl rfl (z0v w8 B _ _ _ _ E.out)) rfl ⟨z0d k4.out L _ _ _ _,.inl ⟨⟨HV.out,j1.out⟩,_,R,rfl,a3.out⟩⟩
end
end Go.Proofs.YteappjogmnogcaaGreatDoor
