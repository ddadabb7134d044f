/- Parts of a proof: EdK EdE Box EdC. -/
import Derived.Test.YtjekapjbigfkbaaGreatDoorT11
import Derived.Test.YtjekapjbigfkbaaGreatDoorT09
import Derived.Laws.ResultCell
namespace Go.Proofs.YtjekapjbigfkbaaGreatDoor
set_option maxRecDepth 100000
set_option linter.unusedSimpArgs false
set_option linter.unusedVariables false
set_option linter.unusedSectionVars false
set_option maxHeartbeats 16000000
open Go Tryz
section
open Go.RowKit Go.Deep
theorem y6n {w:World} {B:Nat} {e t:TypeId} {s n g m:Nat} {v:Value} {xs:List Value} {F:Nat->Value} (h:w.ownsRow B e s v n xs) (c:w.rowIs g t m F) (d:t≠e):v.ownBlock≠some g:=by
 obtain⟨i,hb,_⟩:=c;exact z3d h hb d
structure Cw (w:World) (B k n2 n3:Nat) (r:Nat->Nat) (s:Nat->Nat->Nat):Prop where
 mid:∀ q,q<k->w.rowIs (r q) 67 n2 (fun i=>.slice (some ⟨s q i,0,none⟩) n3 n3)
 row:∀ q i,q<k->i<n2->w.rowIs (s q i) 9 n3 (fun _=>.string ⟨#[]⟩)/\B<=s q i
 inj:∀ q i q' i',q<k->i<n2->q' < k->i' < n2->s q i=s q' i'->q=q'/\i=i'
theorem Cw.kept {w d:World} {B k n2 g:Nat} {r:Nat->Nat} {s:Nat->Nat->Nat} {C:Nat->Prop} (h:Cw w B k n2 g r s) (j:Fr C w d) (l:∀ q,q<k->¬ C (r q)) (o:∀ q i,q<k->i<n2->¬ C (s q i)):Cw d B k n2 g r s :=
 ⟨fun q c=>j.row (h.mid q c) (l q c),fun q i c hi=>⟨j.row (h.row q i c hi).1 (o q i c hi),(h.row q i c hi).2⟩,h.inj⟩
theorem Cw.new {w c:World} {B k n2 d:Nat} {r:Nat->Nat} {s:Nat->Nat->Nat} (h:Cw w B k n2 d r s) (g:Fr (fun _=>False) w c):Cw c B k n2 d r s:=h.kept g (fun _ _ e=>e) (fun _ _ _ _ e=>e)
structure Rp (w:World) (N rb i n2 n3:Nat) (f:Nat->Nat):Prop where
 tab:w.rowIs rb 67 n2 (fun q=>if q<i then .slice (some ⟨f q,0,none⟩) n3 n3 else .slice none 0 0)
 low:N<=rb
 row:∀ q,q<i->w.rowIs (f q) 9 n3 (fun _=>.string ⟨#[]⟩)/\N<=f q
 inj:∀ q q',q<i->q' < i->f q=f q'->q=q'
theorem Rp.made (w:World) (n2 d:Nat) (f:Nat->Nat):Rp (w.alloc (.cells (madeCells #[.slice none 0 0] n2) 67)) w.heap.size w.heap.size 0 n2 d f :=
 ⟨World.rowIs_made w _ n2 _,Nat.le_refl _,fun _ c=>absurd c (Nat.not_lt_zero _),fun _ _ c=>absurd c (Nat.not_lt_zero _)⟩
theorem Rp.next {w:World} {N d i n2 c:Nat} {f:Nat->Nat} (h:Rp w N d i n2 c f) (v:N<=w.heap.size) :
  Rp ((w.alloc (.cells (madeCells #[.string ⟨#[]⟩] c) 9)).setCell ⟨d,i,none⟩ (.slice (some ⟨w.heap.size,0,none⟩) c c)) N d (i+1) n2 c (fun q=>if q=i then w.heap.size else f q):=by
 have s:=h.tab.lt;have p:Fr (fun _=>False) w (w.alloc (.cells (madeCells #[.string ⟨#[]⟩] c) 9)):=Fr.alloc _ _;have r:=World.rowIs_made w (.string ⟨#[]⟩) c 9;refine⟨((p.row h.tab (fun e=>e)).set i _).congr (fun q o=>?_),h.low,fun q o=>?_,fun q j o u k=>?_⟩
 ·by_cases e:q=i
  ·subst e;rw[if_pos rfl,if_pos (Nat.lt_succ_self _),if_pos rfl]
  rw[if_neg e];by_cases e2:q<i
  ·rw[if_pos e2,if_pos (by omega),if_neg e]
  rw[if_neg e2,if_neg (by omega)]
 ·by_cases e:q=i
  ·rw[if_pos e];exact⟨r.setOther (by show w.heap.size≠d;omega) _,v⟩
  rw[if_neg e];have l:=h.row q (by omega);exact⟨(p.row l.1 (fun e=>e)).setOther (z7u l.1 h.tab (by decide)) _,l.2⟩
 by_cases e:q=i
 ·by_cases g:j=i
  ·omega
  rw[if_pos e,if_neg g] at k;have:=(h.row j (by omega)).1.lt;omega
 by_cases g:j=i
 ·rw[if_neg e,if_pos g] at k;have:=(h.row q (by omega)).1.lt;omega
 rw[if_neg e,if_neg g] at k;exact h.inj q j (by omega) (by omega) k
theorem Cw.add {u w:World} {B k v n2 p:Nat} {r:Nat->Nat} {s:Nat->Nat->Nat} {f:Nat->Nat} (h:Cw w B k n2 p r s) (A:Cw u B k n2 p r s) (F:B<=u.heap.size) (d:Rp w u.heap.size v n2 n2 p f) :
  Cw w B (k+1) n2 p (fun q=>if q=k then v else r q) (fun q=>if q=k then f else s q):=by
 refine⟨fun q z=>?_,fun q i z hi=>?_,fun q i o l z hi C c g=>?_⟩
 ·by_cases e:q=k
  ·simp only[if_pos e];exact d.tab.congr fun i hi=>if_pos hi
  simp only[if_neg e];exact h.mid q (by omega)
 ·by_cases e:q=k
  ·simp only[if_pos e];exact⟨(d.row i hi).1,by have:=(d.row i hi).2;omega⟩
  simp only[if_neg e];exact h.row q i (by omega) hi
 by_cases e:q=k
 ·by_cases j:o=k
  ·simp only[if_pos e,if_pos j] at g;exact⟨by omega,d.inj i l hi c g⟩
  simp only[if_pos e,if_neg j] at g;have E:=(d.row i hi).2;have D:=(A.row o l (by omega) c).1.lt;omega
 by_cases j:o=k
 ·simp only[if_neg e,if_pos j] at g;have E:=(d.row l c).2;have D:=(A.row q i (by omega) hi).1.lt;omega
 simp only[if_neg e,if_neg j] at g;exact h.inj q i o l (by omega) hi (by omega) c g
structure TbI (w0 w:World) (tb k n2 n3:Nat) (ev xv yv:Value) (mo:Int) (lv:Value) (r:Nat->Nat) (s:Nat->Nat->Nat):Prop where
 blk:w.heap[tb]?=some (.cells #[ev,.int .i64 mo,xv,yv,lv,.int .i64 0] 65 (0,0))
 own:w.ownsRow w0.heap.size 66 1 lv k (gvs k fun q=>.slice (some ⟨r q,0,none⟩) n2 n2)
 cw:Cw w w0.heap.size k n2 n3 r s
 be:Below w0.heap.size w0 w
 low:w0.heap.size<=tb
section
variable {w0 w w':World} {tb k n2 n3:Nat} {ev xv yv lv:Value} {mo:Int} {r:Nat->Nat} {s:Nat->Nat->Nat}
theorem TbI.new (h:TbI w0 w tb k n2 n3 ev xv yv mo lv r s) (c:Fr (fun _=>False) w w'):TbI w0 w' tb k n2 n3 ev xv yv mo lv r s :=
 ⟨(c.block tb (lt_of_block h.blk) (fun e=>e)).trans h.blk,z2g h.own (z:=none) (Fr.gb (c.mono (fun _ _ e=>e.elim))) (by simp),h.cw.new c,h.be.trans (c.below h.be.size (fun _ e=>e.elim)),h.low⟩
theorem TbI.add {wr d:World} {A go cp:Nat} {f:Nat->Nat} (h:TbI w0 wr tb k n2 n3 ev xv yv mo lv r s) (R:Fr (fun _=>False) wr w) (Q:Rp w wr.heap.size A n2 n2 n3 f) {o:Obj}
  (j:d.ownsRow w0.heap.size 66 1 (.slice (some ⟨go,0,none⟩) (k+1) cp) (k+1) (gvs k (fun q=>.slice (some ⟨r q,0,none⟩) n2 n2)++[.slice (some ⟨A,0,none⟩) n2 n2])) (l:(w.alloc o).grownBy d lv.ownBlock) :
  TbI w0 (d.setCell ⟨tb,4,none⟩ (.slice (some ⟨go,0,none⟩) (k+1) cp)) tb (k+1) n2 n3 ev xv yv mo (.slice (some ⟨go,0,none⟩) (k+1) cp) (fun q=>if q=k then A else r q) (fun q=>if q=k then f else s q):=by
 have u:=h.new R;have C:Fr (fun _=>False) w (w.alloc o):=Fr.alloc _ _;have G:=u.new C;have D:Fr (fun q=>lv.ownBlock=some q) (w.alloc o) d:=Fr.of_gb l (fun _ e=>e);have I:lv.ownBlock≠some tb:=z3d G.own G.blk (by decide);have g:d.heap[tb]?=some (.cells #[ev,.int .i64 mo,xv,yv,lv,.int .i64 0] 65 (0,0)):=(D.block tb (lt_of_block G.blk) (fun e=>I e)).trans G.blk;have H:(Value.slice (some ⟨go,0,none⟩) (k+1) cp).ownBlock≠some tb:=z3d j g (by decide);have E:Fr (fun q=>q=tb) d (d.setCell ⟨tb,4,none⟩ (.slice (some ⟨go,0,none⟩) (k+1) cp)):=(Fr.refl (fun q=>q=tb) d).set (p:=⟨tb,4,none⟩) (.inl rfl) _;have c:Fr (fun q=>lv.ownBlock=some q\/q=tb) w (d.setCell ⟨tb,4,none⟩ (.slice (some ⟨go,0,none⟩) (k+1) cp)) :=
  ((C.mono (fun _ _ e=>e.elim)).trans (D.mono (fun _ _ e=>.inl e))).trans (E.mono (fun _ _ e=>.inr e))
 have B:∀ {b m:Nat} {t:TypeId} {F:Nat->Value},w.rowIs b t m F->t≠66->t≠65->¬ (lv.ownBlock=some b\/b=tb):=fun P K N e=>by
  rcases e with e|e
  ·exact y6n u.own P K e
  exact z0e P u.blk (fun e=>N e.symm) e
 have J:=Cw.add u.cw h.cw h.be.size Q;have v:Cw w w0.heap.size (k+1) n2 n3 (fun q=>if q=k then A else r q) (fun q=>if q=k then f else s q):=J
 refine⟨by simp[World.setCell,Array.getElem?_modify,g],?_,v.kept c (fun q L=>B (v.mid q L) (by decide) (by decide)) (fun q i L hi=>B (v.row q i L hi).1 (by decide) (by decide)),?_,h.low⟩
 ·have:=z2g j (z:=some tb) (Fr.gb (E.mono (fun q _ e=>by rw[e]))) (fun b hb e=>H (by rw[hb,e]));rw[x1r (Y:=fun q=>Value.slice (some ⟨if q=k then A else r q,0,none⟩) n2 n2) (fun i hi=>by rw[if_neg (by omega)])] at this
  have O:=v7v k (fun q=>Value.slice (some ⟨if q=k then A else r q,0,none⟩) n2 n2)
  simp only[if_pos] at O;rw[O] at this;exact this
 refine u.be.trans (c.below u.be.size (fun q e=>?_))
 rcases e with e|e
 ·exact(World.ownsRow.lt u.own q e).1
 rw[e];exact h.low
theorem TbI.cu (h:TbI w0 w tb k n2 n3 ev xv yv mo lv r s) (j:0<k):∃ g cap,lv=.slice (some ⟨g,0,none⟩) k cap/\Cu w w0.heap.size g cap k n2 n3 r s (fun _ _ _=>⟨#[]⟩)/\TbM w tb g cap k n2 n3 ev xv yv mo 0:=by
 have d:=h.own
 rcases h.own.2 with ⟨_,l⟩|⟨g,cap,i,c,_⟩
 ·omega
 rw[c] at d;refine⟨g,cap,c,⟨d,h.cw.mid,h.cw.row,h.cw.inj,fun _ _ _=>by unfold smS;decide⟩,⟨?_⟩⟩;rw[h.blk,c];rfl
end
theorem u4p {a:Option Addr} {n c:Nat}:∀ u ∈ [Value.slice a n c],u.oneCell'=true:=by intro u d;simp at d;subst d;rfl
theorem y3c:(prog.info? 66).map (fun i=>(i.zero,i.size,i.bytes))=some (some (.slice none 0 0),1,24):=by kernel_rfl
theorem v4y:∀ args w,(callFunc 43 args).run prog w=.ok (.enter 43 args) w:=fun args w=>by kernel_rfl
theorem u3m:updX (fun _ _ _=>⟨#[]⟩) 0 0 0 ⟨#[48]⟩=X0:=by funext k i j;rfl
theorem x5n:infS.toList=[105,110,102]:=by decide +kernel
theorem v5e {X:XT} (h:∀ k i j,smS (X k i j)) (a b:Nat):∀ m,smS (lstS X a b m)
 | 0=>by unfold smS lstS;decide
 | m+1=>by
  unfold lstS;split
  ·exact h _ _ _
  exact v5e h a b m
def CosE (M:EM) (na:Nat) (x:Nat->Int) (nb:Nat) (y:Nat->Int) (w:World) (rr:Ending) (w':World):Prop :=
 Below w.heap.size w w'/\((VE M/\isWord na x=true/\isWord nb y=true/\rr=.returned (.tuple #[.string (z6a ⟨M,na,x,nb,y⟩).1,.int .i64 ((z6a ⟨M,na,x,nb,y⟩).2:Int)])) \/
  (¬ (VE M/\isWord na x=true/\isWord nb y=true)/\rr=.returned (.tuple #[.string ⟨#[]⟩,.int .i64 1])))
structure StC (w0 w:World) (tb g cap n1 n2 n3:Nat) (r:Nat->Nat) (s:Nat->Nat->Nat) (ev xv yv:Value) (mo:Int) (z:ST):Prop where
 cu:Cu w w0.heap.size g cap n1 n2 n3 r s z.1
 tm:TbM w tb g cap n1 n2 n3 ev xv yv mo z.2
 be:Below w0.heap.size w0 w
theorem StC.rea {d w p:World} {c g cap n1 n2 k:Nat} {r:Nat->Nat} {s:Nat->Nat->Nat} {j i o:Value} {mo:Int} {z u:ST} (h:StC d w c g cap n1 n2 k r s j i o mo z) (B:d.heap.size<=c) {D:Ending} (l:ReaE d.heap.size c g cap n1 n2 k r s j i o mo u w D p):StC d p c g cap n1 n2 k r s j i o mo u:=by
 refine⟨l.2.1,l.2.2.1,h.be.trans (l.2.2.2.below h.be.size (fun q e=>?_))⟩
 rcases e with rfl|⟨A,v,C,hi,rfl⟩
 ·exact B
 exact(h.cu.row A v C hi).2
theorem StC.new {i w k:World} {j g cap n1 n2 o:Nat} {r:Nat->Nat} {s:Nat->Nat->Nat} {l d p:Value} {mo:Int} {z:ST} (h:StC i w j g cap n1 n2 o r s l d p mo z) (c:Fr (fun _=>False) w k):StC i k j g cap n1 n2 o r s l d p mo z :=
 ⟨h.cu.new c,h.tm.kept c (fun e=>e),h.be.trans (c.below h.be.size (fun _ e=>e.elim))⟩
theorem v3p {M:EM} {mv xv yv:Value} {na nb:Nat} {x y:Nat->Int} (w:World) (hM:Em none w mv M) (hs:ESz M) (ht:Tab w) (hx:Si none w xv na x) (hy:Si none w yv nb y) :
  Calls prog 17 #[mv,xv,yv] w (CosE M na x nb y w):=by
 obtain⟨sv,rfl,hS⟩:=hM;obtain⟨a,l,_,_,_,_,_,_,r9,_⟩:=hS.open;have r7:=z3t hx;have o8:=z3t hy;obtain⟨ax,cx,rfl⟩:=hx.shape;obtain⟨ay,cy,rfl⟩:=hy.shape;subst r9;obtain⟨w1,b7⟩:=exq (w.alloc (.cells #[.slice a M.n l,.int .i64 M.most] 24));obtain⟨Z,c8⟩:=exq (w.heap.size);have l6:Fr (fun _=>False) w w1:=by rw[b7];exact Fr.alloc _ _
 have d5:BoxE w1 Z M (.slice a M.n l):=by rw[b7,c8];exact BoxE.new w M _
 have D:Below w.heap.size w w1:=l6.below (Nat.le_refl _) (fun _ e=>e.elim);have j5:=qh (y0a w1 (⟨_,rfl,hS.kept (z0c D none)⟩:Em none w1 (.agg #[.slice a M.n l,.int .i64 M.most]) M) hs (ht.below D (Nat.le_refl _)));have m0:=d5.c0;have m1:=d5.c1;have i9:=qh D;clear D l6;have h9:=qh d5;clear d5;have r5:=qh hs;clear hs;have j9:=qh ht;clear ht;have HS:=qh hS;clear hS;have HX:=qh hx;clear hx;have HY:=qh hy;clear hy
 go_enter func17,ntmps17
 go_wp2_with fail
 rw[<- b7,<- c8];clear b7;have w7:=qh c8;clear c8;refine j5.out.mono ?_;rintro rr w2 ⟨h8,p8⟩;have S:=qh (i9.out.trans (h8.mono i9.out.size));have a4:=qh (show BoxE w2 Z M (.slice a M.n l) from (h8.block Z h9.out.lt).trans h9.out);clear h8 j5 m0 m1 h9
 rcases p8 with ⟨hv,rfl⟩|⟨hv,rfl⟩
 rotate_left
 ·have HV:=qh hv;clear hv
  go_wp2_with fail
  go_ret2;exact⟨S.out,.inr ⟨fun h=>HV.out h.1,rfl⟩⟩
 have HV:=qh hv;clear hv;by_cases s8:(200:Int)<(na:Int)
 ·have b3:isWord na x=false:=by unfold isWord;rw[show decide (na<=200)=false by simp;omega];rfl
  have g1:=qh b3;clear b3
  go_wp2_with fail
  go_ret2;exact⟨S.out,.inr ⟨fun h=>by rw[g1.out] at h;exact absurd h.2.1 (by simp),rfl⟩⟩
 have m3:decide ((200:Int)<(na:Int))=false:=by simp;omega
 have u5:na<=200:=by omega
 by_cases d6:(200:Int)<(nb:Int)
 ·have b3:isWord nb y=false:=by unfold isWord;rw[show decide (nb<=200)=false by simp;omega];rfl
  have g1:=qh b3;clear b3
  go_wp2_with fail
  go_ret2;exact⟨S.out,.inr ⟨fun h=>by rw[g1.out] at h;exact absurd h.2.2 (by simp),rfl⟩⟩
 have m8:decide ((200:Int)<(nb:Int))=false:=by simp;omega
 have u2:nb<=200:=by omega
 have n6:isWord na x=z3m na x 500:=by unfold isWord;rw[show decide (na<=200)=true by simp;omega];simp
 have o4:isWord nb y=z3m nb y 500:=by unfold isWord;rw[show decide (nb<=200)=true by simp;omega];simp
 have k9:=qh n6;clear n6;have n7:=qh o4;clear o4;clear s8 d6;have l8:=qh (z4s (sig:=500) w2 (HX.out.kept (z0c S.out none)) r7)
 go_wp2_with fail
 refine l8.out.mono ?_;rintro rr w3 ⟨rfl,h5⟩;have a6:=qh (S.out.trans (h5.mono S.out.size));have b0:=qh (show BoxE w3 Z M (.slice a M.n l) from (h5.block Z a4.out.lt).trans a4.out);clear h5 l8 S a4;cases I:z3m na x 500
 ·have g3:=qh I;clear I
  go_wp2_with fail
  go_ret2;exact⟨a6.out,.inr ⟨fun h=>by rw[k9.out,g3.out] at h;exact absurd h.2.1 (by simp),rfl⟩⟩
 have j3:=qh I;clear I;have m5:=qh (z4s (sig:=500) w3 (HY.out.kept (z0c a6.out none)) o8)
 go_wp2_with fail
 refine m5.out.mono ?_;rintro rr w4 ⟨rfl,g5⟩;have d7:=qh (a6.out.trans (g5.mono a6.out.size));have K:=qh (show BoxE w4 Z M (.slice a M.n l) from (g5.block Z b0.out.lt).trans b0.out);clear g5 m5 a6 b0;cases I:z3m nb y 500
 ·have g3:=qh I;clear I
  go_wp2_with fail
  go_ret2;exact⟨d7.out,.inr ⟨fun h=>by rw[n7.out,g3.out] at h;exact absurd h.2.2 (by simp),rfl⟩⟩
 have m7:=qh I;clear I;clear m3 m8;obtain⟨E,c7⟩:∃ E:Nat,M.most=(E:Int):=⟨M.most.toNat,by have:=HV.out.m0;omega⟩;have u6:E<=6:=by have:=HV.out.m6;omega
 have m0:=K.out.c0;have m1:=K.out.c1;rw[c7] at m1;obtain⟨n2,k2⟩:=exq (na+1);obtain⟨A,l7⟩:=exq (nb+1);have r8:1<=n2/\n2<=201:=by omega
 have p7:1<=A/\A<=201:=by omega
 have e6:=run_make_row' (P:=prog) 66 67 (.slice none 0 0) 24 underlying66 y1d rfl .i64 .i64 n2 (by omega) (by omega);have e0:=run_make_row' (P:=prog) 67 9 (.string ⟨#[]⟩) 16 underlying67 y4g rfl .i64 .i64 A (by omega) (by omega);have R:((n2:Nat):Int)=(na:Int)+1:=by omega
 have Q:((A:Nat):Int)=(nb:Int)+1:=by omega
 rw[R] at e6;rw[Q] at e0;have i2:=qh k2;clear k2;have h7:=qh l7;clear l7;have u9:=qh R;clear R;have x0:=qh Q;clear Q;obtain⟨v0,v5⟩:=r8;obtain⟨x1,v8⟩:=p7;obtain⟨i0,n0,j6,k7,d6⟩:=z4u y3c;have s6:=qh n0;clear n0;have q8:=qh j6;clear j6;have t7:=qh k7;clear k7;have s3:=qh d6;clear d6;obtain⟨w5,b5⟩:=exq (w4.alloc (.cells #[.slice a M.n l,.int .i64 (E:Int),.slice ax na cx,.slice ay nb cy,.slice none 0 0,.int .i64 0] 65));obtain⟨H,a8⟩:=exq (w4.heap.size);have g9:Fr (fun _=>False) w4 w5:=by rw[b5];exact Fr.alloc _ _
 have a9:BoxE w5 Z M (.slice a M.n l):=(g9.block Z K.out.lt (fun e=>e)).trans K.out;have N:=qh (show TbI w w5 H 0 n2 A (.slice a M.n l) (.slice ax na cx) (.slice ay nb cy) (E:Int) (.slice none 0 0) (fun _=>0) (fun _ _=>0) from
  ⟨by rw[b5,a8];exact heap_alloc_new w4 _,World.ownsRow_nil _ _ _ _,⟨fun q hq=>absurd hq (Nat.not_lt_zero _),fun q i hq=>absurd hq (Nat.not_lt_zero _),fun q i q' i' hq=>absurd hq (Nat.not_lt_zero _)⟩,d7.out.trans (g9.below d7.out.size (fun _ e=>e.elim)),by rw[a8];exact d7.out.size⟩)
 have g8:=a9.c1;rw[c7] at g8;rw[b5] at g8;have o2:=qh a9;clear a9 K g9;have i4:=qh c7;clear c7
 go_wp2_with fail
 rw[<- b5,<- a8];clear b5 m0 m1 g8;have t9:=qh a8;clear a8
 go_loopw [49] (fun g7 wr=>∃ k:Nat,k<=E+1/\g7=.int .i64 (k:Int)/\∃ lv r s,TbI w wr H k n2 A (.slice a M.n l) (.slice ax na cx) (.slice ay nb cy) (E:Int) lv r s) (fun g7 _=>E+1-(intOf g7).toNat)
 case atStart=>exact⟨0,Nat.zero_le _,rfl,_,_,_,N.out⟩
 obtain⟨k,hk,rfl,lv,r,s,C⟩:=hrel;clear N o2;have N:=qh C;clear C;by_cases T:k<E+1
 ·have i3:(k:Int)<(E:Int)+1:=by omega
  obtain⟨sa,sc,b9,_,_⟩:=z5r N.out.own;subst b9;obtain⟨wo,rfl⟩:∃ wo:World,wo=wr:=⟨_,rfl⟩;obtain⟨Y,d4⟩:=exq (wo.heap.size);obtain⟨w6,c9⟩:=exq (wo.alloc (.cells (madeCells #[.slice none 0 0] n2) 67));have i8:Fr (fun _=>False) wo w6:=by rw[c9];exact Fr.alloc _ _
  have F:Rp w6 Y Y 0 n2 A (fun _=>0):=by rw[c9,d4];exact Rp.made wo n2 A _
  have l5:=qh i8;clear i8;have J:=qh F;clear F
  go_wp2_with fail
  rw[<- c9,<- d4];clear c9;have l0:=qh d4;clear d4
  go_loopw [57] (fun f9 wq=>∃ i:Nat,i<=n2/\f9=.int .i64 (i:Int)/\Fr (fun _=>False) wo wq/\∃ f,Rp wq Y Y i n2 A f) (fun f9 _=>n2-(intOf f9).toNat)
  case atStart=>exact⟨0,Nat.zero_le _,rfl,l5.out,_,J.out⟩
  obtain⟨i,hi,rfl,k5,f,F⟩:=hrel;clear l5 J;have f7:=qh k5;clear k5;have J:=qh F;clear F;by_cases b8:i<n2
  ·have r2:(i:Int)<(n2:Int):=by omega
   have k4:(0:Int)<=(i:Int):=by omega
   have h0:Y<wr.heap.size:=J.out.tab.lt;have c0:=J.out.tab.cell b8;rw[if_neg (Nat.lt_irrefl i)] at c0;have f0:=J.out.tab.frozen i;have u:=J.out.next (by omega);have g2:Fr (fun _=>False) wo ((wr.alloc (.cells (madeCells #[.string ⟨#[]⟩] A) 9)).setCell ⟨Y,i,none⟩ (.slice (some ⟨wr.heap.size,0,none⟩) A A)):=(f7.out.trans (Fr.alloc _ _)).set (p:=⟨Y,i,none⟩) (.inr (by show wo.heap.size<=Y;rw[l0.out];exact Nat.le_refl _)) _;rw[World.setCell_alloc_past _ _ _ _ h0] at u g2;have O:=qh u;clear u;have o7:=qh g2;clear g2
   go_wp2_with fail
   go_roundw
   case rel=>exact⟨i+1,by omega,by go_num,o7.out,_,O.out⟩
   simp[intOf];omega
  have b4:i=n2:=by omega
  have c6:¬ ((i:Int)<(n2:Int)):=by omega
  have F:=J.out;rw[b4] at F;have k0:=qh F;clear F J b4;have C:=N.out.new f7.out;have c4:wr.cell? ⟨H,4,none⟩=some (.slice sa k sc):=cell_of C.blk 4 rfl;have f5:=qh C;clear C;have v9:w.heap.size<=wr.heap.size:=f5.out.be.size;have e8:∀ (we:World) (go cp:Nat) (o:Obj),we.ownsRow w.heap.size 66 1 (.slice (some ⟨go,0,none⟩) (k+1) cp) (k+1) (gvs k (fun q=>.slice (some ⟨r q,0,none⟩) n2 n2)++[.slice (some ⟨Y,0,none⟩) n2 n2])->(wr.alloc o).grownBy we (Value.slice sa k sc).ownBlock ->
    (∃ lv r s,TbI w (we.setCell ⟨H,4,none⟩ (.slice (some ⟨go,0,none⟩) (k+1) cp)) H (k+1) n2 A (.slice a M.n l) (.slice ax na cx) (.slice ay nb cy) (E:Int) lv r s)/\we.cell? ⟨H,4,none⟩=some (.slice sa k sc)/\we.frozen? ⟨H,4,none⟩=false:=fun we go cp o h1 h2=>by
   have h3:=f5.out.new (Fr.alloc wr o);have h4:we.heap[H]?=some (.cells #[.slice a M.n l,.int .i64 (E:Int),.slice ax na cx,.slice ay nb cy,.slice sa k sc,.int .i64 0] 65 (0,0)):=(h2.block H (lt_of_block h3.blk) (fun e=>z3d h3.own h3.blk (by decide) e.symm)).trans h3.blk;exact⟨⟨_,_,_,N.out.add f7.out (by rw[<- l0.out];exact k0.out) h1 h2⟩,cell_of h4 4 rfl,by simp[World.frozen?,h4]⟩
  have m9:=qh e8;clear e8
  go_wp2_with (at_builtin;refine wpList_append_lies _ rfl (.tmp 72) (.tmp 74) 63 rfl w.heap.size 66 i0 (.slice none 0 0) 1 24 underlying63 s6.out q8.out t7.out s3.out rfl (by omega) (.slice sa k sc) k _ (by first|rfl|simp[Act.eval,Act.put]) (World.ownsRow.alloc f5.out.own _) ⟨wr.heap.size,0,none⟩ 1 1 [.slice (some ⟨Y,0,none⟩) n2 n2] (by first|rfl|simp[Act.eval,Act.put]) rfl (y6e (cs:=#[.slice (some ⟨Y,0,none⟩) n2 n2]) (heap_alloc_new wr _)) u4p (by omega) (by unfold maxLen;omega) (by omega) (by simp;omega) _ rfl ?_;intro go cp we a1 b1 s5 h0;obtain⟨hT,e4,f4⟩:=m9.out we go cp _ a1 b1;have p9:=qh hT;clear hT a1 b1 s5 h0)
  go_roundw
  case rel=>exact⟨k+1,by omega,by go_num,p9.out⟩
  simp[intOf];omega
 have i3:¬ ((k:Int)<(E:Int)+1):=by omega
 have d0:k=E+1:=by omega
 have C:=N.out;rw[d0] at C;obtain⟨g,gc,b9,B,G⟩:=C.cu (by omega);have o3:=C.be;have e5:=C.low;clear C d0;have g6:E+1=M.most.toNat+1:=by have:=i4.out;omega
 obtain⟨n1,f1⟩:=exq (E+1);have j1:1<=n1/\n1<=7:=by omega
 obtain⟨j1,w0⟩:=j1;rw[<- f1] at b9 B G g6;subst b9;have W:((n1:Nat):Int)=(E:Int)+1:=by omega
 have d:StC w (wr.setCell ⟨s 0 0,0,none⟩ (.string ⟨#[48]⟩)) H g gc n1 n2 A r s (.slice a M.n l) (.slice ax na cx) (.slice ay nb cy) (E:Int) (X0,0):=by
  have h1:=B.set (k:=0) (i:=0) (j:=0) (v:=⟨#[48]⟩) (by omega) (by omega) (by unfold smS;decide);rw[u3m] at h1;have p0:s 0 0≠H:=z0e (B.row 0 0 (by omega) (by omega)).1 G.blk (by decide);refine⟨h1,⟨(blk_setCell_other _ _ _ _ (fun e=>p0 e.symm)).trans G.blk⟩,o3.setCell (B.row 0 0 (by omega) (by omega)).2 _⟩
 obtain⟨-,-,-,-,c4,-⟩:=G.cells;have d1:=B.c1 (k:=0) (by omega);have d2:=B.c2 (k:=0) (i:=0) (by omega) (by omega);have d3:=B.c3 (k:=0) (i:=0) (j:=0) (by omega) (by omega) (by omega);have f3:=(B.row 0 0 (by omega) (by omega)).1.frozen 0;have r4:(0:Int)<(n1:Int):=by omega
 have s4:(0:Int)<(n2:Int):=by omega
 have q9:(0:Int)<(A:Int):=by omega
 obtain⟨r0,o5⟩:=exq (r 0);obtain⟨s0,l4⟩:=exq (s 0 0);rw[<- o5] at d1 d2;rw[<- l4] at d2 d3 f3 d;obtain⟨-,-,-,-,r3,-⟩:=d.tm.cells;clear o5 l4 B G o3 e6 e0;have c:=qh d;clear d;have e3:=qh e5;clear e5;have n9:=qh g6;clear g6;have u8:=qh f1;clear f1;have v7:=qh W;clear W;clear N hk T;obtain⟨wa,g0⟩:=exq (wr.setCell ⟨s0,0,none⟩ (.string ⟨#[48]⟩));rw[<- g0] at c;have v2:∀ (fn:Fn) (first l:Array Value) (w:World),(Instr.makeFunc fn first l).run prog w=.ok (.func fn first l) w:=fun _ _ _ _=>rfl
 go_wp2_with fail
 rw[<- g0];clear g0 d1 d2 d3 f3 c4 r3 r4 s4 q9;obtain⟨P,hP⟩:∃ P:EP,P=⟨M,na,x,nb,y⟩:=⟨_,rfl⟩
 go_loopw [95] (fun f2 wr=>∃ k:Nat,k<=n1/\f2=.int .i64 (k:Int)/\StC w wr H g gc n1 n2 A r s (.slice a M.n l) (.slice ax na cx) (.slice ay nb cy) (E:Int) (tabP P k (X0,0))) (fun f2 _=>n1-(intOf f2).toNat)
 case atStart=>exact⟨0,Nat.zero_le _,rfl,c.out⟩
 obtain⟨k,hk,rfl,d⟩:=hrel;clear c;have c:=qh d;clear d;obtain⟨-,-,-,-,c4,-⟩:=c.out.tm.cells;by_cases T:k<n1
 ·have i3:(k:Int)<(n1:Int):=by omega
  have u4:(0:Int)<=(k:Int):=by omega
  have d1:=c.out.cu.c1 T;obtain⟨z1,W⟩:=exq (tabP P k (X0,0));have u:tabP P (k+1) (X0,0)=rowP P k (P.a+1) z1:=by rw[W];rfl
  have O:=qh u;clear u;rw[<- W] at c;clear W
  go_wp2_with fail
  clear c4 d1
  go_loopw [106] (fun a5 wr=>∃ i:Nat,i<=n2/\a5=.int .i64 (i:Int)/\StC w wr H g gc n1 n2 A r s (.slice a M.n l) (.slice ax na cx) (.slice ay nb cy) (E:Int) (rowP P k i z1)) (fun a5 _=>n2-(intOf a5).toNat)
  case atStart=>exact⟨0,Nat.zero_le _,rfl,c.out⟩
  obtain⟨i,hi,rfl,d⟩:=hrel;clear c;have c:=qh d;clear d;obtain⟨-,-,-,-,c4,-⟩:=c.out.tm.cells;by_cases b8:i<n2
  ·have r2:(i:Int)<(n2:Int):=by omega
   have k4:(0:Int)<=(i:Int):=by omega
   have d1:=c.out.cu.c1 T;have d2:=c.out.cu.c2 T b8;obtain⟨z2,R⟩:=exq (rowP P k i z1);have u:rowP P k (i+1) z1=colP P k i (P.b+1) z2:=by rw[R];rfl
   have j0:=qh u;clear u;rw[<- R] at c;clear R
   go_wp2_with fail
   clear c4 d1 d2
   go_loopw [120] (fun a2 wr=>∃ j:Nat,j<=A/\a2=.int .i64 (j:Int)/\StC w wr H g gc n1 n2 A r s (.slice a M.n l) (.slice ax na cx) (.slice ay nb cy) (E:Int) (colP P k i j z2)) (fun a2 _=>A-(intOf a2).toNat)
   case atStart=>exact⟨0,Nat.zero_le _,rfl,c.out⟩
   obtain⟨j,hj,rfl,d⟩:=hrel;clear c;have c:=qh d;clear d;by_cases s9:j<A
   ·have v4:(j:Int)<(A:Int):=by omega
    have u0:(0:Int)<=(j:Int):=by omega
    obtain⟨z3,Q⟩:=exq (colP P k i j z2);have u:colP P k i (j+1) z2=stpC P (k,i,j) z3:=by rw[Q];rfl
    rw[<- Q] at c;clear Q;have b6:Calls prog 43 #[.pointer (some ⟨H,0,none⟩),plV k i j] wr (ReaE w.heap.size H g gc n1 n2 A r s (.slice a M.n l) (.slice ax na cx) (.slice ay nb cy) (E:Int) (stpC P (k,i,j) z3) wr):=by
     have B:=c.out.cu;have G:=c.out.tm;have h1:=n9.out;have h2:=i2.out;have h3:=h7.out;have h4:=i4.out;subst h2 h3 hP;rw[h1] at B G T ⊢;rw[<- h4] at G ⊢;exact x9v wr B G HV.out r5.out HS.out HX.out HY.out c.out.be (Nat.le_refl _) e3.out T b8 s9 j9.out
    unfold plV at b6;have m4:=qh u;clear u;have e7:=qh b6;clear b6;have v3:=v4y
    go_wp2_with fail
    refine e7.out.mono ?_;rintro rr w8 g4;have b2:=qh (c.out.rea e3.out g4);obtain rfl:=g4.1;clear g4 c e7
    go_wp2_with fail
    go_roundw
    case rel=>exact⟨j+1,by omega,by go_num,by rw[m4.out];exact b2.out⟩
    simp[intOf];omega
   have j7:j=A:=by omega
   have c6:¬ ((j:Int)<(A:Int)):=by omega
   have d:=c.out;have D:A=P.b+1:=by rw[hP];exact h7.out
   rw[j7,D] at d;rw[<- j0.out] at d;rw[<- D] at d;have b2:=qh d;clear d D j7
   go_wp2_with fail
   go_roundw
   case rel=>exact⟨i+1,by omega,by go_num,b2.out⟩
   simp[intOf];omega
  have b4:i=n2:=by omega
  have c6:¬ ((i:Int)<(n2:Int)):=by omega
  have d:=c.out;have D:n2=P.a+1:=by rw[hP];exact i2.out
  rw[b4,D] at d;rw[<- O.out] at d;rw[<- D] at d;have b2:=qh d;clear d D b4;clear c4
  go_wp2_with fail
  go_roundw
  case rel=>exact⟨k+1,by omega,by go_num,b2.out⟩
  simp[intOf];omega
 have d0:k=n1:=by omega
 have c6:¬ ((k:Int)<(n1:Int)):=by omega
 have d:=c.out;rw[d0] at d;obtain⟨z,hz⟩:=exq (tabP P n1 (X0,0));rw[<- hz] at d;have j4:z6a ⟨M,na,x,nb,y⟩=if z.2≠0 then (⟨#[]⟩,z.2) else (lstS z.1 na nb n1,0):=by
  rw[hz,n9.out,hP];rfl
 have l9:=qh j4;clear j4;have U:=qh d;clear d c hz c4;obtain⟨-,-,-,-,c4,c5⟩:=U.out.tm.cells;have d9:=qh (k9.out.trans j3.out);have d8:=qh (n7.out.trans m7.out);by_cases he:z.2=0
 rotate_left
 ·have e9:¬ ((z.2:Int)=0):=by omega
  have f8:=qh (l9.out.trans (if_pos he));clear he
  go_wp2_with fail
  go_quiet (fail)
  go_wp2_with fail
  go_ret2;exact⟨below_drewN U.out.be _,.inl ⟨HV.out,d9.out,d8.out,by rw[f8.out];rfl⟩⟩
 have e9:(z.2:Int)=0:=by omega
 have f8:=qh (l9.out.trans (if_neg (by omega)));clear he;rw[e9] at c5;clear e9
 go_wp2_with fail
 clear c4 c5
 go_loopw [146,6] (fun a3 v6 wr=>∃ q:Nat,q<=n1/\a3=.int .i64 (q:Int)/\v6=.string (lstS z.1 na nb q)/\StC w wr H g gc n1 n2 A r s (.slice a M.n l) (.slice ax na cx) (.slice ay nb cy) (E:Int) z) (fun a3 _ _=>n1-(intOf a3).toNat)
 case atStart=>exact⟨0,Nat.zero_le _,rfl,rfl,U.out⟩
 obtain⟨q,hq,rfl,rfl,d⟩:=hrel;clear U;have c:=qh d;clear d;by_cases h6:q<n1
 ·have u7:(q:Int)<(n1:Int):=by omega
  have u1:(0:Int)<=(q:Int):=by omega
  have i5:na<n2:=by have:=i2.out;omega
  have r1:nb<A:=by have:=h7.out;omega
  have u3:(na:Int)<(n2:Int):=by omega
  have t8:(nb:Int)<(A:Int):=by omega
  have r6:(0:Int)<=(na:Int):=by omega
  have o6:(0:Int)<=(nb:Int):=by omega
  have d1:=c.out.cu.c1 h6;have d2:=c.out.cu.c2 h6 i5;have d3:=c.out.cu.c3 h6 i5 r1;have e1:wr.cell? ⟨g,q,none⟩=some (.slice (some ⟨r q,0,none⟩) n2 n2):=d1;obtain⟨rq,i6⟩:=exq (r q);obtain⟨sq,i7⟩:=exq (s q na);obtain⟨X,hX⟩:=exq (z.1 q na nb);obtain⟨L,hL⟩:=exq (lstS z.1 na nb q);rw[<- i6] at d1 d2;rw[<- i7] at d2 d3;rw[<- hX] at d3;have u:lstS z.1 na nb (q+1)=if X≠⟨#[]⟩/\(L=infS\/z3q X L<0) then X else L:=by rw[hX,hL];rfl
  have j8:smS X:=by rw[hX];exact c.out.cu.sm _ _ _
  rw[<- hL];have O:=qh u;clear u;have p6:=qh j8;clear j8;clear i6 i7 hX e1;have HL:=qh hL;clear hL;cases hO:(X.toList==[])
  ·cases hI:(L.toList==[105,110,102])
   ·have j2:=qh (y0c X L wr p6.out (by rw[HL.out];exact v5e c.out.cu.sm _ _ _) (j9.out.below c.out.be (Nat.le_refl _)));have a7:X≠⟨#[]⟩:=fun e=>by rw[e] at hO;simp at hO
    have k6:L≠infS:=fun e=>by rw[e] at hI;rw[x5n] at hI;simp at hI
    have o9:=qh a7;clear a7;have s7:=qh k6;clear k6
    go_wp2_with fail
    refine j2.out.mono ?_;rintro rr w9 ⟨rfl,n5⟩;have k3:=qh (c.out.new (Fr.of_below n5));clear n5 j2;by_cases hc:z3q X L<0
    ·have HN:=qh (O.out.trans (if_pos ⟨o9.out,.inr hc⟩))
     go_wp2_with fail
     go_roundw
     case rel=>exact⟨q+1,by omega,by go_num,by rw[HN.out],k3.out⟩
     simp[intOf];omega
    have HN:=qh (O.out.trans (if_neg (fun h=>by rcases h.2 with h|h;exact s7.out h;exact hc h)))
    go_wp2_with fail
    go_roundw
    case rel=>exact⟨q+1,by omega,by go_num,by rw[HN.out],k3.out⟩
    simp[intOf];omega
   have a7:X≠⟨#[]⟩:=fun e=>by rw[e] at hO;simp at hO
   have HN:=qh (O.out.trans (if_pos ⟨a7,.inl (toList_eq (by rw[x5n];exact hI))⟩));clear a7
   go_wp2_with fail
   go_roundw
   case rel=>exact⟨q+1,by omega,by go_num,by rw[HN.out],c.out⟩
   simp[intOf];omega
  have k1:X=⟨#[]⟩:=z4j hO;have HN:=qh (O.out.trans (if_neg (fun h=>h.1 k1)));clear k1
  go_wp2_with fail
  go_roundw
  case rel=>exact⟨q+1,by omega,by go_num,by rw[HN.out],c.out⟩
  simp[intOf];omega
 have q7:q=n1:=by omega
 have c6:¬ ((q:Int)<(n1:Int)):=by omega
 rw[q7]
 go_wp2_with fail
 go_ret2;exact⟨c.out.be,.inl ⟨HV.out,d9.out,d8.out,by rw[f8.out];rfl⟩⟩
end
section
open Go.RowKit Go.Deep
def atI (n:Nat) (l:Nat->Int) (i:Nat):Int:=if i<n then l i else 0
def edC (d:ED) (m t:Nat):Nat->MD × Nat × ByteArray->MD × Nat × ByteArray
 | 0,s=>s
 | i+1,s =>
  if i+1<m then (((edC d m t i s).1.state ⟨#[]⟩).arc (edC d m t i s).2.1 (atI d.nf d.f i) (atI d.nt d.t i) (edC d m t i s).2.2 ((edC d m t i s).1.n:Nat),(edC d m t i s).1.n,oneF 1)
  else ((edC d m t i s).1.arc (edC d m t i s).2.1 (atI d.nf d.f i) (atI d.nt d.t i) (edC d m t i s).2.2 (t:Nat),t,oneF 1)
structure Grw (D:MD) (N A:Nat):Prop where
 n:D.n<=N
 na:∀ q,D.na q<=A
theorem Grw.state {D:MD} {N A:Nat} (h:Grw D N A) (f:ByteArray):Grw (D.state f) (N+1) A:=⟨by show D.n+1<=_;have:=h.n;omega,fun q=>by show (if q=D.n then 0 else D.na q)<=A;split;omega;exact h.na q⟩
theorem Grw.arc {D:MD} {N A:Nat} (h:Grw D N A) (q:Nat) (a b:Int) (x:ByteArray) (t:Int):Grw (D.arc q a b x t) N (A+1):=⟨h.n,fun i=>by show (if i=q then D.na q+1 else D.na i)<=A+1;have:=h.na q;have:=h.na i;split<;>omega⟩
theorem Grw.mono {D:MD} {N N' A A':Nat} (h:Grw D N A) (d:N<=N') (c:A<=A'):Grw D N' A':=⟨Nat.le_trans h.n d,fun q=>Nat.le_trans (h.na q) c⟩
theorem x3s {d:ED} {m t N A:Nat} {s:MD × Nat × ByteArray} (h:Grw s.1 N A):∀ i,Grw (edC d m t i s).1 (N+i) (A+i)
 | 0=>h
 | i+1=>by
  have ih:=x3s (d:=d) (m:=m) (t:=t) h i;unfold edC;split
  ·exact((ih.state _).arc _ _ _ _ _).mono (by omega) (by omega)
  exact(ih.arc _ _ _ _ _).mono (by omega) (by omega)
theorem u3t {d:ED} {m t:Nat} {s:MD × Nat × ByteArray}:∀ i,s.1.n<=(edC d m t i s).1.n
 | 0=>Nat.le_refl _
 | i+1=>by
  have ih:=u3t (d:=d) (m:=m) (t:=t) (s:=s) i;unfold edC;split
  ·show _<=(edC d m t i s).1.n+1;omega
  exact ih
theorem v5q {d:ED} {m t:Nat} {s:MD × Nat × ByteArray} (hs:s.2.1<s.1.n):∀ i,i<m->(edC d m t i s).2.1<(edC d m t i s).1.n
 | 0,_=>hs
 | i+1,hi=>by
  unfold edC;rw[if_pos hi];show (edC d m t i s).1.n<(edC d m t i s).1.n+1;omega
theorem Kt.keep {db:Nat} {w d:World} {b:Nat} {cs:Array Value} {t:TypeId} {fr:Nat × Nat} (g:Kt db w d) (h:w.heap[b]?=some (.cells cs t fr)) (hb:b≠db) (l:t≠87) (o:t≠83):d.heap[b]?=some (.cells cs t fr) :=
 (g.block b (lt_of_block h) hb (fun ⟨k,p,j,c,i⟩=>by rw[h] at c;simp at c;obtain⟨_,rfl,_⟩:=c;exact i.elim l o)).trans h
theorem y9c {n i:Nat} {v:Value} {x:Nat->Int} (w:World) (j:Si none w v n x) (hn:(n:Int)<=4611686018427387903):Calls prog 104 #[v,.int .i64 (i:Int)] w (fun r w'=>r=.returned (.int .i64 (atI n x i))/\w'=w):=by
 obtain⟨a,p,b,s,rfl,g,u,o,hb,c⟩:=j.open;unfold maxLen at o;clear j;by_cases h:i<n
 ·have l:(i:Int)<(n:Int):=by omega
  have k:(0:Int)<=(i:Int):=by omega
  obtain rfl:=g (by omega);have c0:=c i h;have d:atI n x i=x i:=if_pos h;rw[d];clear c g hb d
  go_enter func104,ntmps104
  go_wp2_with fail
  go_ret;exact⟨rfl,rfl⟩
 have l:decide ((i:Int)<(n:Int))=false:=by simp;omega
 have d:atI n x i=0:=if_neg h;rw[d];clear c g hb d
 go_enter func104,ntmps104
 go_wp2_with fail
 go_ret;exact⟨rfl,rfl⟩
theorem u2w:∀ args w,(callFunc 104 args).run prog w=.ok (.enter 104 args) w:=fun args w=>by kernel_rfl
theorem v2r {B db fr t:Nat} {D:MD} {d:ED} {F T:Value} (w0 w:World) (f5:Below w0.heap.size w0 w) (f0:w0.heap.size<=B) (h:∃ R sv,Drw w B db D R sv) (hB:B<=w.heap.size) (hF:Si none w0 F d.nf d.f) (hT:Si none w0 T d.nt d.t) (hd:EdOk d)
  (f1:fr<D.n) (hg:Grw D 90000 90000):Calls prog 52 #[.pointer (some ⟨db,0,none⟩),.agg #[F,T,.string d.w],.int .i64 (fr:Int),.int .i64 (t:Int)] w
   (fun r w'=>r=.returned (.tuple #[])/\DrE B db (edC d (max d.nf d.nt) t (max d.nf d.nt) (D,fr,d.w)).1 w w'):=by
 obtain⟨m,hm⟩:=exq (max d.nf d.nt);have g8:m<=6:=by have:=hd.f6;have:=hd.t6;omega
 have h7:1<=m:=by have:=hd.pos;omega
 have h5:max (d.nf:Int) (d.nt:Int)=(m:Int):=by omega
 have h2:IntKind.i64.wrap ((m:Int)-1)=(m:Int)-1:=by rw[IntKind.wrap_i64];omega
 rw[<- hm];obtain⟨fa,fc,rfl⟩:=hF.shape;obtain⟨ta,tc,rfl⟩:=hT.shape;obtain⟨w1,d1⟩:=exq (w.alloc (.cells #[.slice fa d.nf fc,.slice ta d.nt tc,.string d.w] 50));obtain⟨O,e0⟩:=exq (w.heap.size);have b0:Fr (fun _=>False) w w1:=by rw[d1];exact Fr.alloc _ _
 have b1:w1.heap[O]?=some (.cells #[.slice fa d.nf fc,.slice ta d.nt tc,.string d.w] 50 (0,0)):=by rw[d1,e0];exact heap_alloc_new w _
 obtain⟨R,sv,A⟩:=h;have f7:O≠db:=by have:=A.lt;omega
 have d7:Drw w1 B db D R sv:=⟨(b0.block db A.lt (fun e=>e)).trans A.blk,A.own.kept (z:=none) (Fr.gb (b0.mono (fun _ _ e=>e.elim))) (by simp),A.low⟩;have d8:Below B w w1:=b0.below hB (fun _ e=>e.elim);have d5:Kt db w w1:=Kt.of_fr (b0.mono (fun _ _ e=>e.elim));have h3:=u2w;have HM:=qh hm;clear hm;have HD:=qh hd;clear hd;have HF:=qh hF;clear hF;have HT:=qh hT;clear hT;have d2:=qh f5;clear f5;have a4:=qh (show ∃ R sv,Drw w1 B db D R sv from ⟨R,sv,d7⟩);clear d7;have a3:=qh b1;clear b1;have o:=qh d8;clear d8;have L:=qh d5;clear d5;have e3:=qh f7;clear f7;have HG:=qh hg;clear hg;have g6:=qh f1;clear f1;have h1:(d.nf:Int)<=6:=by have:=HD.out.f6;omega
 have h4:(d.nt:Int)<=6:=by have:=HD.out.t6;omega
 clear b0 A
 go_enter func52,ntmps52
 go_wp2_with fail
 rw[<- d1,<- e0];clear d1 e0
 go_loopw [2,10,23] (fun v2 g5 e4 wr=>∃ (i:Nat) (s:MD × Nat × ByteArray),i<=m/\s=edC d m t i (D,fr,d.w)/\v2=.int .i64 (s.2.1:Int)/\g5=.string s.2.2/\e4=.int .i64 (i:Int)/\(∃ R sv,Drw wr B db s.1 R sv)/\Below B w wr/\Kt db w wr /\
  wr.heap[O]?=some (.cells #[.slice fa d.nf fc,.slice ta d.nt tc,.string d.w] 50 (0,0))) (fun _ _ e4 _=>m-(intOf e4).toNat)
 case atStart=>exact⟨0,_,Nat.zero_le _,rfl,rfl,rfl,rfl,a4.out,o.out,L.out,a3.out⟩
 obtain⟨i,s,hi,hs,rfl,rfl,rfl,A,f8,g0,b1⟩:=hrel;clear a4 a3 o L;have HS:=qh hs;clear hs;have a4:=qh A;clear A;have a3:=qh b1;clear b1;have o:=qh f8;clear f8;have L:=qh g0;clear g0;by_cases g3:i<m
 ·have g9:(i:Int)<(m:Int):=by omega
  have e8:=x3s (d:=d) (m:=m) (t:=t) (s:=(D,fr,d.w)) HG.out i;rw[<- HS.out] at e8;have d9:=qh e8;clear e8;have e6:=v5q (d:=d) (m:=m) (t:=t) (s:=(D,fr,d.w)) g6.out i g3;rw[<- HS.out] at e6;have f2:=qh e6;clear e6;by_cases e9:i+1<m
  ·have g4:(i:Int)<(m:Int)-1:=by omega
   obtain⟨R,sv,A⟩:=a4.out;have f9:=qh (y8g ⟨#[]⟩ wr A (by have:=o.out.size;omega) (by have:=d9.out.n;omega));clear A a4
   go_wp2_with fail
   refine f9.out.mono ?_;rintro r w2 ⟨rfl,⟨R2,e1,Y⟩,d6,c6⟩;have d3:=c6.keep a3.out e3.out (by decide) (by decide);have j:=qh Y;clear Y;have H:=qh (o.out.trans d6);clear d6 o;have d4:=qh (L.out.trans c6);clear c6 L;have b5:=qh d3;clear d3 a3 f9;have b2:edC d m t (i+1) (D,fr,d.w)=((s.1.state ⟨#[]⟩).arc s.2.1 (atI d.nf d.f i) (atI d.nt d.t i) s.2.2 (s.1.n:Nat),s.1.n,oneF 1):=by
    unfold edC;rw[if_pos e9,<- HS.out]
   have a2:=qh b2;clear b2;have a1:Grw (s.1.state ⟨#[]⟩) 100000 100000:=(d9.out.state _).mono (by omega) (by omega);have f4:s.2.1<(s.1.state ⟨#[]⟩).n:=by show s.2.1<s.1.n+1;have:=f2.out;omega
   have U:=qh a1;clear a1;have g2:=qh f4;clear f4;obtain⟨nx,a6⟩:=exq (s.1.n);rw[<- a6] at a2;rw[<- a6];have h6:=qh a6;clear a6;obtain⟨G,a5⟩:=exq (w2.drew);have k:Fr (fun _=>False) w2 G:=by rw[a5];exact(Fr.refl _ _).drew
   have l:=(k.block O (lt_of_block b5.out) (fun e=>e)).trans b5.out;have c:G.cell? ⟨O,0,none⟩=some (.slice fa d.nf fc)/\G.cell? ⟨O,1,none⟩=some (.slice ta d.nt tc):=⟨by simp[World.cell?,l],by simp[World.cell?,l]⟩;have E:Below w0.heap.size w0 G:=d2.out.trans ((H.out.mono f0).trans (k.below (by have:=d2.out.size;have:=H.out.size;omega) (fun _ e=>e.elim)));have Q:Drw G B db _ R2 e1:=⟨(k.block db j.out.lt (fun e=>e)).trans j.out.blk,j.out.own.kept (z:=none) (Fr.gb (k.mono (fun _ _ e=>e.elim))) (by simp),j.out.low⟩;have c7:=qh (y9c (i:=i) G (HF.out.kept (z0c E none)) (by omega));have b7:=qh (y9c (i:=i) G (HT.out.kept (z0c E none)) (by omega));have b3:=qh (x0e (atI d.nf d.f i) (atI d.nt d.t i) (nx:Int) s.2.2 G Q (by have:=H.out.size;have:=k.size;omega) g2.out U.out.n (U.out.na _));have a9:=qh l;clear l;have P:=H.out.trans (k.below (show B<=w2.heap.size by have:=H.out.size;omega) (fun _ e=>e.elim));have a7:=qh P;clear P;have c9:=qh (d4.out.trans (Kt.of_fr (k.mono (fun _ _ e=>e.elim))));clear k E Q j H d4 b5
   go_wp2_with fail
   refine z0g (fun b4=>b4.cell? ⟨O,0,none⟩=some (.slice fa d.nf fc)/\b4.cell? ⟨O,1,none⟩=some (.slice ta d.nt tc)) 15 (by kernel_rfl) ?_;rw[<- a5];clear a5;refine z0b.tl 0 c (v:=?zr) ?xv ?yw
   case xv=>rintro u ⟨s1,s2⟩;go_simp;try with_reducible rfl
   refine z0b.tl 1 c (v:=?zw) ?yc ?yv
   case yc=>rintro u ⟨s1,s2⟩;go_simp;try with_reducible rfl
   refine z0b.tl 2 c (v:=?zq) ?xx ?yx
   case xx=>rintro u ⟨s1,s2⟩;go_simp;try with_reducible rfl
   refine z0b.tl 3 c (v:=?Xb) ?xp ?za
   case xp=>rintro u ⟨s1,s2⟩;go_simp;try with_reducible rfl
   refine z0b.tl 4 c (v:=?zx) ?yb ?yn
   case yb=>rintro u ⟨s1,s2⟩;go_simp;try with_reducible rfl
   refine z0b.tl 5 c (v:=?Xa) ?ya ?yt
   case ya=>rintro u ⟨s1,s2⟩;go_simp;try with_reducible rfl
   try simp only[Act.put,tryL]
   refine z0b.tl 7 c (v:=?Xf) ?xn ?zb
   case xn=>rintro u ⟨s1,s2⟩;go_simp;try with_reducible rfl
   refine z0b.tl 8 c (v:=?Xd) ?xq ?yu
   case xq=>rintro u ⟨s1,s2⟩;go_simp;try with_reducible rfl
   refine z0b.tl 9 c (v:=?zu) ?xo ?zc
   case xo=>rintro u ⟨s1,s2⟩;go_simp;try with_reducible rfl
   refine z0b.tl 10 c (v:=?zi) ?xh ?yf
   case xh=>rintro u ⟨s1,s2⟩;go_simp;try with_reducible rfl
   try simp only[Act.put,tryL]
   refine z0b.tl 12 c (v:=?zl) ?xi ?yk
   case xi=>rintro u ⟨s1,s2⟩;go_simp;try with_reducible rfl
   refine z0b.tl 13 c (v:=?zj) ?xj ?yh
   case xj=>rintro u ⟨s1,s2⟩;go_simp;try with_reducible rfl
   try simp only[Act.put,tryL]
   refine z0b.on 6 fun K X=>?_;go_simp;refine c7.out.mono ?_;rintro r wz ⟨rfl,rfl⟩;refine X.out _ _ (.inr c) ?_;clear X K
   try simp only[Act.put,tryL]
   refine z0b.on 11 fun K X=>?_;go_simp;refine b7.out.mono ?_;rintro r g1 ⟨rfl,rfl⟩;refine X.out _ _ (.inr c) ?_;clear X K
   try simp only[Act.put,tryL]
   refine z0b.tl 14 c (v:=?zh) ?xf ?yd
   case xf=>rintro u ⟨s1,s2⟩;go_simp;try with_reducible rfl
   try simp only[Act.put,tryL]
   refine z0b.on 15 fun K X=>?_;go_simp;refine b3.out.mono ?_;rintro r w3 ⟨rfl,Z,S,C⟩;have N:=qh (C.keep a9.out e3.out (by decide) (by decide));have W:=qh Z;clear Z;have I:=qh (a7.out.trans S);clear S;have d0:=qh (c9.out.trans C);clear C;refine X.out _ _ (.inl rfl) (z0b.done (by kernel_rfl) ?_ _);clear X K c c7 b7 b3;have e7:=qh (y0t 1 w3)
   go_wp2_with fail
   refine e7.out.mono ?_;rintro r w4 ⟨rfl,c8⟩;have p:Fr (fun _=>False) w3 w4:=Fr.of_below c8;obtain⟨R4,e5,g⟩:=W.out;have J:Drw w4 B db _ R4 e5:=⟨(p.block db g.lt (fun e=>e)).trans g.blk,g.own.kept (z:=none) (Fr.gb (p.mono (fun _ _ e=>e.elim))) (by simp),g.low⟩;have a8:=qh ((p.block O (lt_of_block N.out) (fun e=>e)).trans N.out);have b9:=qh J;clear J g;have b6:=qh (I.out.trans (p.below (show B<=w3.heap.size by have:=I.out.size;omega) (fun _ e=>e.elim)));have b8:=qh (d0.out.trans (Kt.of_fr (p.mono (fun _ _ e=>e.elim))));clear p c8 W
   go_wp2_with fail
   go_roundw
   case rel=>exact⟨i+1,_,by omega,rfl,by rw[a2.out],by rw[a2.out],by go_num,by rw[a2.out];exact⟨_,_,b9.out⟩,b6.out,b8.out,a8.out⟩
   simp[intOf];omega
  have g4:¬ ((i:Int)<(m:Int)-1):=by omega
  have b2:edC d m t (i+1) (D,fr,d.w)=(s.1.arc s.2.1 (atI d.nf d.f i) (atI d.nt d.t i) s.2.2 (t:Nat),t,oneF 1):=by
   unfold edC;rw[if_neg e9,<- HS.out]
  have a2:=qh b2;clear b2;obtain⟨R2,e1,Y⟩:=a4.out;have j:=qh Y;clear Y a4;have a1:Grw s.1 100000 100000:=d9.out.mono (by omega) (by omega);have U:=qh a1;clear a1;obtain⟨G,a5⟩:=exq (wr.drew);have k:Fr (fun _=>False) wr G:=by rw[a5];exact(Fr.refl _ _).drew
  have l:=(k.block O (lt_of_block a3.out) (fun e=>e)).trans a3.out;have c:G.cell? ⟨O,0,none⟩=some (.slice fa d.nf fc)/\G.cell? ⟨O,1,none⟩=some (.slice ta d.nt tc):=⟨by simp[World.cell?,l],by simp[World.cell?,l]⟩;have E:Below w0.heap.size w0 G:=d2.out.trans ((o.out.mono f0).trans (k.below (by have:=d2.out.size;have:=o.out.size;omega) (fun _ e=>e.elim)));have Q:Drw G B db _ R2 e1:=⟨(k.block db j.out.lt (fun e=>e)).trans j.out.blk,j.out.own.kept (z:=none) (Fr.gb (k.mono (fun _ _ e=>e.elim))) (by simp),j.out.low⟩;have c7:=qh (y9c (i:=i) G (HF.out.kept (z0c E none)) (by omega));have b7:=qh (y9c (i:=i) G (HT.out.kept (z0c E none)) (by omega));have b3:=qh (x0e (atI d.nf d.f i) (atI d.nt d.t i) (t:Int) s.2.2 G Q (by have:=o.out.size;have:=k.size;omega) f2.out U.out.n (U.out.na _));have a9:=qh l;clear l;have P:=o.out.trans (k.below (show B<=wr.heap.size by have:=o.out.size;omega) (fun _ e=>e.elim));have a7:=qh P;clear P;have c9:=qh (L.out.trans (Kt.of_fr (k.mono (fun _ _ e=>e.elim))));clear k E Q j o L a3
  go_wp2_with fail
  refine z0g (fun b4=>b4.cell? ⟨O,0,none⟩=some (.slice fa d.nf fc)/\b4.cell? ⟨O,1,none⟩=some (.slice ta d.nt tc)) 15 (by kernel_rfl) ?_;rw[<- a5];clear a5;refine z0b.tl 0 c (v:=?zt) ?xr ?ys
  case xr=>rintro u ⟨s1,s2⟩;go_simp;try with_reducible rfl
  refine z0b.tl 1 c (v:=?zy) ?xu ?yr
  case xu=>rintro u ⟨s1,s2⟩;go_simp;try with_reducible rfl
  refine z0b.tl 2 c (v:=?zo) ?xl ?yz
  case xl=>rintro u ⟨s1,s2⟩;go_simp;try with_reducible rfl
  refine z0b.tl 3 c (v:=?zs) ?xw ?yy
  case xw=>rintro u ⟨s1,s2⟩;go_simp;try with_reducible rfl
  refine z0b.tl 4 c (v:=?zp) ?xz ?ym
  case xz=>rintro u ⟨s1,s2⟩;go_simp;try with_reducible rfl
  refine z0b.tl 5 c (v:=?zz) ?xk ?yq
  case xk=>rintro u ⟨s1,s2⟩;go_simp;try with_reducible rfl
  try simp only[Act.put,tryL]
  refine z0b.tl 7 c (v:=?Xe) ?xt ?yp
  case xt=>rintro u ⟨s1,s2⟩;go_simp;try with_reducible rfl
  refine z0b.tl 8 c (v:=?zv) ?xm ?zd
  case xm=>rintro u ⟨s1,s2⟩;go_simp;try with_reducible rfl
  refine z0b.tl 9 c (v:=?Xc) ?xs ?yo
  case xs=>rintro u ⟨s1,s2⟩;go_simp;try with_reducible rfl
  refine z0b.tl 10 c (v:=?zk) ?xa ?yi
  case xa=>rintro u ⟨s1,s2⟩;go_simp;try with_reducible rfl
  try simp only[Act.put,tryL]
  refine z0b.tl 12 c (v:=?zf) ?xc ?yg
  case xc=>rintro u ⟨s1,s2⟩;go_simp;try with_reducible rfl
  refine z0b.tl 13 c (v:=?zn) ?xd ?yj
  case xd=>rintro u ⟨s1,s2⟩;go_simp;try with_reducible rfl
  try simp only[Act.put,tryL]
  refine z0b.on 6 fun K X=>?_;go_simp;refine c7.out.mono ?_;rintro r wz ⟨rfl,rfl⟩;refine X.out _ _ (.inr c) ?_;clear X K
  try simp only[Act.put,tryL]
  refine z0b.on 11 fun K X=>?_;go_simp;refine b7.out.mono ?_;rintro r g1 ⟨rfl,rfl⟩;refine X.out _ _ (.inr c) ?_;clear X K
  try simp only[Act.put,tryL]
  refine z0b.tl 14 c (v:=?ze) ?xg ?yl
  case xg=>rintro u ⟨s1,s2⟩;go_simp;try with_reducible rfl
  try simp only[Act.put,tryL]
  refine z0b.on 15 fun K X=>?_;go_simp;refine b3.out.mono ?_;rintro r w3 ⟨rfl,Z,S,C⟩;have N:=qh (C.keep a9.out e3.out (by decide) (by decide));have W:=qh Z;clear Z;have I:=qh (a7.out.trans S);clear S;have d0:=qh (c9.out.trans C);clear C;refine X.out _ _ (.inl rfl) (z0b.done (by kernel_rfl) ?_ _);clear X K c c7 b7 b3;have e7:=qh (y0t 1 w3)
  go_wp2_with fail
  refine e7.out.mono ?_;rintro r w4 ⟨rfl,c8⟩;have p:Fr (fun _=>False) w3 w4:=Fr.of_below c8;obtain⟨R4,e5,g⟩:=W.out;have J:Drw w4 B db _ R4 e5:=⟨(p.block db g.lt (fun e=>e)).trans g.blk,g.own.kept (z:=none) (Fr.gb (p.mono (fun _ _ e=>e.elim))) (by simp),g.low⟩;have a8:=qh ((p.block O (lt_of_block N.out) (fun e=>e)).trans N.out);have b9:=qh J;clear J g;have b6:=qh (I.out.trans (p.below (show B<=w3.heap.size by have:=I.out.size;omega) (fun _ e=>e.elim)));have b8:=qh (d0.out.trans (Kt.of_fr (p.mono (fun _ _ e=>e.elim))));clear p c8 W
  go_wp2_with fail
  go_roundw
  case rel=>exact⟨i+1,_,by omega,rfl,by rw[a2.out],by rw[a2.out],by go_num,by rw[a2.out];exact⟨_,_,b9.out⟩,b6.out,b8.out,a8.out⟩
  simp[intOf];omega
 have g7:i=m:=by omega
 have h0:¬ ((i:Int)<(m:Int)):=by omega
 subst g7
 go_wp2_with fail
 go_end0
 exact⟨rfl,by rw[<- HS.out];exact⟨a4.out,o.out,L.out⟩⟩
end
section
open Go.RowKit Go.Deep
def Box4 (w:World) (b:Nat) (kd st:Int) (ld:ByteArray) (sv:Value):Prop:=w.heap[b]?=some (.cells #[.int .i64 kd,.int .i64 st,.string ld,sv] 36 (0,0))
theorem x5v (w:World) (b:Nat) (c g x2 d:Value) {i j y2 k:Value} {t:TypeId} (h:w.heap[b]?=some (.cells #[i,j,y2,k] t (0,0))):(w.setCells b 0 [c,g,x2,d]).heap[b]?=some (.cells #[c,g,x2,d] t (0,0)):=by
 simp[World.setCells,World.setCell,Array.getElem?_modify,h]
theorem z8m {B b:Nat} {a w:World} (h:Below B a w) (hb:B<=b) (d g x2 c:Value):Below B a (w.setCells b 0 [d,g,x2,c]) :=
 (((h.setCell (p:=⟨b,0,none⟩) hb d).setCell (p:=⟨b,0+1,none⟩) hb g).setCell (p:=⟨b,0+1+1,none⟩) hb x2).setCell (p:=⟨b,0+1+1+1,none⟩) hb c
theorem u3p {w:World} {b:Nat} {c d y2 g:Value} {t:TypeId} (h:w.heap[b]?=some (.cells #[c,d,y2,g] t (0,0))):w.there b 0 4:=by
 intro j i;have:j=0\/j=1\/j=2\/j=3:=by omega
 rcases this with rfl|rfl|rfl|rfl<;>simp[World.cell?,World.frozen?,h]
theorem Box4.range {w:World} {b:Nat} {kd d:Int} {g:ByteArray} {sv:Value} (h:Box4 w b kd d g sv):w.rangeAt b 0 [.int .i64 kd,.int .i64 d,.string g,sv]:=by
 intro j v c;unfold Box4 at h;have i:j<4:=by have:=(List.getElem?_eq_some_iff.1 c).1;simpa using this
 have:j=0\/j=1\/j=2\/j=3:=by omega
 rcases this with rfl|rfl|rfl|rfl<;>(simp at c;subst c;simp[World.cell?,h])
theorem v0p {w:World} {b:Nat} {kd c:Int} {d:ByteArray} {sv:Value} (h:Box4 w b kd c d sv):(loadVar 36 ⟨b,0,none⟩).run prog w=.ok (.agg #[.int .i64 kd,.int .i64 c,.string d,sv]) w :=
 run_loadVar_mid (P:=prog) w b 0 36 [.int .i64 kd,.int .i64 c,.string d,sv] _ h.range underlying36 rfl (by kernel_rfl)
theorem z3z {fn:Func} {p u:Tmp} (h:fn.results=#[.cell p 36,.tmp u]) (c:Array Value) {w:World} {b:Nat} {kd d:Int} {g:ByteArray} {sv v:Value} (i:c.getD p undef=.pointer (some ⟨b,0,none⟩)) (j:c.getD u undef=v) (hb:Box4 w b kd d g sv) :
  (results fn c).run prog w=.ok (.tuple #[.agg #[.int .i64 kd,.int .i64 d,.string g,sv],v]) w:=by
 rw[results_cell_tmp h,i,j];show ((loadVar 36 ⟨b,0,none⟩).run prog w).andThen _=_;rw[v0p hb];rfl
end
section
open Go.RowKit Go.Deep
def stC (one:ByteArray):Nat->MD
 | 0=>v8x 1 0 one
 | k+1=>(stC one k).state one
def arC (one:ByteArray) (k:Nat):Nat->MD->MD
 | 0,D=>D
 | s+1,D=>(arC one k s D).arc k ((s+1:Nat):Int) ((s+1:Nat):Int) one (k:Int)
def mxE (d:ED):Nat:=max d.nf d.nt
def edsC (M:EM) (k:Nat):Nat->MD->MD
 | 0,D=>D
 | e+1,D=>if (k:Int)<M.most then (edC (M.e e) (mxE (M.e e)) (k+1) (mxE (M.e e)) (edsC M k e D,k,(M.e e).w)).1 else edsC M k e D
def allC (M:EM) (one:ByteArray) (sg:Nat):Nat->MD->MD
 | 0,D=>D
 | k+1,D=>edsC M k M.n (arC one k sg (allC M one sg k D))
def cmpC (M:EM) (sg:Nat):MD:=allC M (oneF 1) sg (M.most.toNat+1) (stC (oneF 1) (M.most.toNat+1))
def szC (M:EM):Nat->Nat
 | 0=>0
 | i+1=>szC M i+mxE (M.e i)
def InSg (M:EM) (sg:Int):Prop:=∀ i,i<M.n->y0g (M.e i).nf (M.e i).f sg/\y0g (M.e i).nt (M.e i).t sg
def InSz (M:EM) (sg:Int):Prop:=M.most+1+M.most*((szC M M.n:Int)-(M.n:Int))<=3000/\(M.most+1)*sg+M.most*(szC M M.n:Int)<=30000
theorem y6h {M:EM} (h:VE M):∀ n,n<=M.n->n<=szC M n/\szC M n<=6*n
 | 0,_=>⟨Nat.le_refl _,Nat.le_refl _⟩
 | n+1,hn=>by
  have ih:=y6h h n (by omega);have hd:=h.ok n (by omega);have h1:=hd.f6;have h2:=hd.t6;have h3:=hd.pos;show n+1<=szC M n+max _ _/\szC M n+max _ _<=_;omega
theorem x2b (one:ByteArray):∀ k,(stC one k).n=k
 | 0=>rfl
 | k+1=>by show (stC one k).n+1=k+1;rw[x2b one k]
theorem x2m (one:ByteArray):∀ k,Grw (stC one k) k 0
 | 0=>⟨Nat.le_refl _,fun _=>Nat.le_refl _⟩
 | k+1=>(x2m one k).state one
theorem v6h {one:ByteArray} {k:Nat} {D:MD}:∀ s,(arC one k s D).n=D.n
 | 0=>rfl
 | s+1=>v6h s
theorem y9h {one:ByteArray} {k N A:Nat} {D:MD} (h:Grw D N A):∀ s,Grw (arC one k s D) N (A+s)
 | 0=>h
 | s+1=>(y9h h s).arc _ _ _ _ _
theorem u0c {M:EM} (h:VE M) {i:Nat} (hi:i<M.n):mxE (M.e i)<=6:=by have:=(h.ok i hi).f6;have:=(h.ok i hi).t6;unfold mxE;omega
theorem y9x {M:EM} (hv:VE M) {k N A:Nat} {D:MD} (h:Grw D N A):∀ e,e<=M.n->Grw (edsC M k e D) (N+6*e) (A+6*e)
 | 0,_=>h
 | e+1,he=>by
  have ih:=y9x hv (k:=k) h e (by omega);unfold edsC;split
  ·exact(x3s (s:=(edsC M k e D,k,(M.e e).w)) ih _).mono (by have:=u0c hv (show e<M.n by omega);omega) (by have:=u0c hv (show e<M.n by omega);omega)
  exact ih.mono (by omega) (by omega)
theorem v0a {M:EM} {k:Nat} {D:MD}:∀ e,D.n<=(edsC M k e D).n
 | 0=>Nat.le_refl _
 | e+1=>by
  have ih:=v0a (M:=M) (k:=k) (D:=D) e;unfold edsC;split
  ·exact Nat.le_trans ih (u3t (s:=(edsC M k e D,k,(M.e e).w)) _)
  exact ih
theorem y8n {M:EM} (hv:VE M) {one:ByteArray} {sg N A:Nat} (hs:sg<=500) {D:MD} (h:Grw D N A):∀ k,Grw (allC M one sg k D) (N+2400*k) (A+2900*k)
 | 0=>h
 | k+1=>(y9x hv (y9h (y8n hv hs h k) sg) M.n (Nat.le_refl _)).mono (by have:=hv.n4;omega) (by have:=hv.n4;omega)
theorem v9m {M:EM} {one:ByteArray} {sg:Nat} {D:MD}:∀ k,D.n<=(allC M one sg k D).n
 | 0=>Nat.le_refl _
 | k+1=>by
  have h1:=v9m (M:=M) (one:=one) (sg:=sg) (D:=D) k;have h2:=v0a (M:=M) (k:=k) (D:=arC one k sg (allC M one sg k D)) M.n;rw[v6h] at h2;exact Nat.le_trans h1 h2
def HdM (D:MD) (one:ByteArray):Prop:=D.kind=1/\D.start=0/\D.lead=one
theorem v9v {d:ED} {m t:Nat} {one:ByteArray} {s:MD × Nat × ByteArray} (h:HdM s.1 one):∀ i,HdM (edC d m t i s).1 one
 | 0=>h
 | i+1=>by
  have ih:=v9v (d:=d) (m:=m) (t:=t) h i;unfold edC;split
  ·exact ih
  exact ih
theorem y8c (one:ByteArray):∀ k,HdM (stC one k) one
 | 0=>⟨rfl,rfl,rfl⟩
 | k+1=>y8c one k
theorem v9x {one:ByteArray} {k:Nat} {D:MD} (h:HdM D one):∀ s,HdM (arC one k s D) one
 | 0=>h
 | s+1=>v9x h s
theorem v4m {M:EM} {one:ByteArray} {k:Nat} {D:MD} (h:HdM D one):∀ e,HdM (edsC M k e D) one
 | 0=>h
 | e+1=>by
  have ih:=v4m (M:=M) (k:=k) h e;unfold edsC;split
  ·exact v9v (s:=(edsC M k e D,k,(M.e e).w)) ih _
  exact ih
theorem y3g {M:EM} {one:ByteArray} {sg:Nat} {D:MD} (h:HdM D one):∀ k,HdM (allC M one sg k D) one
 | 0=>h
 | k+1=>v4m (v9x (y3g h k) sg) M.n
def y9a:Value:=.agg #[.int .i64 0,.int .i64 0,.string ⟨#[]⟩,.slice none 0 0]
def CmpE (M:EM) (sg:Int) (w:World) (r:Ending) (w':World):Prop :=
 Below w.heap.size w w'/\((¬ (VE M/\0<=sg/\sg<=500/\InSg M sg)/\r=.returned (.tuple #[y9a,.int .i64 1])) \/
  (VE M/\0<=sg/\sg<=500/\InSg M sg/\((¬ InSz M sg/\r=.returned (.tuple #[y9a,.int .i64 2])) \/
   (InSz M sg/\∃ sv R,r=.returned (.tuple #[.agg #[.int .i64 1,.int .i64 0,.string (oneF 1),sv],.int .i64 0])/\OwM w' w.heap.size sv (cmpC M sg.toNat) R))))
structure CE (w wr:World) (mb rb:Nat) (M:EM) (sv:Value):Prop where
 hb:Below w.heap.size w wr
 kb:BoxE wr mb M sv
 kr:wr.heap[rb]?=some (.cells #[.int .i64 0,.int .i64 0,.string ⟨#[]⟩,.slice none 0 0] 36 (0,0))
 lr:w.heap.size<=rb
theorem CE.fr {w wr i:World} {g c:Nat} {M:EM} {sv:Value} (h:CE w wr g c M sv) (d:Fr (fun _=>False) wr i):CE w i g c M sv :=
 ⟨h.hb.trans (d.below h.hb.size (fun _ e=>e.elim)),(d.block g h.kb.lt (fun e=>e)).trans h.kb,(d.block c (lt_of_block h.kr) (fun e=>e)).trans h.kr,h.lr⟩
theorem CE.zero {w wr:World} {d c:Nat} {M:EM} {sv:Value} (h:CE w wr d c M sv):Below w.heap.size w (wr.setCells c 0 [.int .i64 0,.int .i64 0,.string ⟨#[]⟩,.slice none 0 0])/\Box4 (wr.setCells c 0 [.int .i64 0,.int .i64 0,.string ⟨#[]⟩,.slice none 0 0]) c 0 0 ⟨#[]⟩ (.slice none 0 0) :=
 ⟨z8m h.hb h.lr _ _ _ _,x5v wr c _ _ _ _ h.kr⟩
theorem cells4 {w:World} {c:Nat} {i v1 g d:Value} {t:TypeId} (h:w.heap[c]?=some (.cells #[i,v1,g,d] t (0,0))):(w.cell? ⟨c,0,none⟩=some i/\w.cell? ⟨c,1,none⟩=some v1/\w.cell? ⟨c,2,none⟩=some g/\w.cell? ⟨c,3,none⟩=some d)/\∀ j,w.frozen? ⟨c,j,none⟩=false :=
 ⟨⟨by simp[World.cell?,h],by simp[World.cell?,h],by simp[World.cell?,h],by simp[World.cell?,h]⟩,fun j=>by simp[World.frozen?,h]⟩
theorem y5v {M:EM} {v:Value} {sg:Int} (w:World) (hM:Em none w v M) (hs:ESz M) (ht:Tab w):Calls prog 21 #[v,.int .i64 sg] w (CmpE M sg w):=by
 obtain⟨sv,rfl,hS⟩:=hM;obtain⟨a,F,b,a8,A,A',C,C',rfl,ha,hc,hm,hb,e8⟩:=hS.open;unfold maxLen at hm;have y1:=hs.m0;have y7:=hs.m1;have y6:=hs.n;obtain⟨w1,G⟩:=exq (w.alloc (.cells #[.slice a M.n F,.int .i64 M.most] 24));obtain⟨w2,N⟩:=exq (w1.alloc (.cells #[.int .i64 0,.int .i64 0,.string ⟨#[]⟩,.slice none 0 0] 36));have j7:w1.heap.size=w.heap.size+1:=by rw[G];simp
 have n7:Fr (fun _=>False) w w1:=by rw[G];exact Fr.alloc _ _
 have g6:Fr (fun _=>False) w1 w2:=by rw[N];exact Fr.alloc _ _
 have b7:BoxE w1 w.heap.size M (.slice a M.n F):=by rw[G];exact BoxE.new w M _
 have m9:BoxE w2 w.heap.size M (.slice a M.n F):=(g6.block _ b7.lt (fun e=>e)).trans b7;have q7:w2.heap[w.heap.size+1]?=some (.cells #[.int .i64 0,.int .i64 0,.string ⟨#[]⟩,.slice none 0 0] 36 (0,0)):=by rw[<- j7,N];exact heap_alloc_new w1 _
 obtain⟨mb,d6⟩:=exq (w.heap.size);obtain⟨E,h4⟩:=exq (w.heap.size+1);have l:CE w w2 mb E M (.slice a M.n F):=⟨(n7.trans g6).below (Nat.le_refl _) (fun _ e=>e.elim),by rw[d6];exact m9,by rw[h4];exact q7,by omega⟩;have c0:=l.kb.c0;have c1:=l.kb.c1;have k9:=qh (y0a w2 (⟨_,rfl,hS.kept (z0c l.hb none)⟩:Em none w2 (.agg #[.slice a M.n F,.int .i64 M.most]) M) hs (ht.below l.hb (Nat.le_refl _)));have y5:=qh hs;clear hs;have HT:=qh ht;clear ht;have HA:=qh ha;clear ha;have HB:=qh hb;clear hb;have HR:=qh e8;clear e8 hS;have c:=qh l;clear l m9 q7 b7 n7 g6 j7;rw[d6,N,G] at c0 c1
 go_enter func21,ntmps21
 go_wp2_with fail
 rw[<- G,<- N,<- h4,<- d6];clear c0 c1 G N d6 h4;refine k9.out.mono ?_;rintro r w3 ⟨o5,hr⟩;have f4:=c.out.fr (Fr.of_below o5);have o:=qh f4;clear f4 o5 c k9;obtain⟨⟨r0,r1,r2,r3⟩,B⟩:=cells4 o.out.kr;have f0:=B 0;have f1:=B 1;have f2:=B 2;have f3:=B 3;clear B
 rcases hr with ⟨hv,rfl⟩|⟨hv,rfl⟩
 rotate_left
 ·have HV:=qh hv;clear hv
  go_wp2_with fail
  refine bodyPost_ret (z3z rfl _ (b:=E) rfl rfl o.out.zero.2) rfl ⟨o.out.zero.1,.inl ⟨fun h=>HV.out h.1,rfl⟩⟩
 have HV:=qh hv;clear hv;by_cases h5:0<=sg
 rotate_left
 ·have o4:sg<0:=by omega
  go_wp2_with fail
  refine bodyPost_ret (z3z rfl _ (b:=E) rfl rfl o.out.zero.2) rfl ⟨o.out.zero.1,.inl ⟨fun h=>absurd h.2.1 (by omega),rfl⟩⟩
 have o4:decide (sg<0)=false:=by simp;omega
 by_cases g0:sg<=500
 rotate_left
 ·have a5:(500:Int)<sg:=by omega
  go_wp2_with fail
  refine bodyPost_ret (z3z rfl _ (b:=E) rfl rfl o.out.zero.2) rfl ⟨o.out.zero.1,.inl ⟨fun h=>absurd h.2.2.1 (by omega),rfl⟩⟩
 have a5:decide ((500:Int)<sg)=false:=by simp;omega
 obtain⟨sn,j4⟩:∃ sn:Nat,sg=(sn:Int):=⟨sg.toNat,by omega⟩;obtain⟨mo,p9⟩:∃ mo:Nat,M.most=(mo:Int):=⟨M.most.toNat,by have:=HV.out.m0;omega⟩;have d8:=qh j4;clear j4;have x6:=qh p9;clear p9;have x8:M.n<=400:=HV.out.n4;have c0:=o.out.kb.c0
 go_wp2_with fail
 clear o4 a5 c0 r0 r1 r2 r3 f0 f1 f2 f3
 go_loopw [6,30] (fun v6 g7 wr=>∃ q:Nat,q<=M.n/\g7=.int .i64 (q:Int)/\v6=.int .i64 (szC M q:Int)/\(∀ i,i<q->y0g (M.e i).nf (M.e i).f sg/\y0g (M.e i).nt (M.e i).t sg)/\CE w wr mb E M (.slice a M.n F)) (fun _ g7 _=>M.n-(intOf g7).toNat)
 case atStart=>exact⟨0,Nat.zero_le _,rfl,rfl,fun i hi=>absurd hi (Nat.not_lt_zero _),o.out⟩
 obtain⟨q,hq,rfl,rfl,p6,l⟩:=hrel;clear o;have k6:=qh p6;clear p6;have c:=qh l;clear l;by_cases e6:q<M.n
 ·have x5:(q:Int)<(M.n:Int):=by omega
  have x0:(0:Int)<=(q:Int):=by omega
  obtain rfl:=HA.out (by omega);have a2:=(HB.out (by omega)).1;obtain⟨k1,k2,k3,k4,k5⟩:=HR.out q e6;have c0:=(c.out.hb.cell (p:=⟨b,a8+q*3,none⟩) a2).trans k1;have c1:=(c.out.hb.cell (p:=⟨b,a8+q*3+1,none⟩) a2).trans k2;have c2:=(c.out.hb.cell (p:=⟨b,a8+q*3+2,none⟩) a2).trans k3;clear k1 k2 k3;have d7:=HV.out.ok q e6;have m4:=y6h HV.out q (by omega);have a3:szC M (q+1)=szC M q+mxE (M.e q):=rfl;obtain⟨d,hd⟩:=exq (M.e q);rw[<- hd] at c0 c1 c2 k4 k5 d7 a3;have u6:d.nf<=6:=d7.f6;have s9:d.nt<=6:=d7.t6;obtain⟨nf,b2⟩:=exq (d.nf);obtain⟨nt,c9⟩:=exq (d.nt);rw[<- b2] at c0 k4 u6;rw[<- c9] at c1 k5 s9;obtain⟨zq,e3⟩:=exq (szC M q);rw[<- e3] at a3 m4;rw[<- e3];have j9:((mxE d:Nat):Int)=max (nf:Int) (nt:Int):=by unfold mxE;omega
  have u9:=qh k4;clear k4;have u7:=qh k5;clear k5;have HD:=qh hd;clear hd d7;have j5:=qh b2;clear b2;have m3:=qh c9;clear c9;have v0:=qh j9;clear j9;have y4:=qh e3;clear e3;have r9:=qh a3;clear a3;obtain⟨Z,J⟩:=exq (wr.alloc (.cells #[.slice (A q) nf (C q),.slice (A' q) nt (C' q),.string d.w] 50));have a1:Fr (fun _=>False) wr Z:=by rw[J];exact Fr.alloc _ _
  obtain⟨ab,g4⟩:=exq (wr.heap.size);have u:Z.heap[ab]?=some (.cells #[.slice (A q) nf (C q),.slice (A' q) nt (C' q),.string d.w] 50 (0,0)):=by rw[J,g4];exact heap_alloc_new wr _
  have H:=qh (c.out.fr a1);have c7:=qh u;clear u a1;have o2:=qh (z4s (sig:=sg) Z (u9.out.kept (z0c H.out.hb none)) (by omega))
  go_wp2_with fail
  rw[<- J,<- g4];clear J g4 c0 c1 c2;refine o2.out.mono ?_;rintro r w1 ⟨rfl,i4⟩;have O:=qh (H.out.fr (Fr.of_below i4));clear H;have I:=qh ((i4.block ab (lt_of_block c7.out)).trans c7.out);clear i4 c7 o2;have e0:w1.cell? ⟨ab,0,none⟩=some (.slice (A q) nf (C q)):=by simp[World.cell?,I.out]
  have e1:w1.cell? ⟨ab,1,none⟩=some (.slice (A' q) nt (C' q)):=by simp[World.cell?,I.out]
  obtain⟨⟨r0,r1,r2,r3⟩,B⟩:=cells4 O.out.kr;have f0:=B 0;have f1:=B 1;have f2:=B 2;have f3:=B 3;clear B;cases G:z3m nf d.f sg
  ·have hn:=z2i.1 G;have HN:=qh hn;clear hn G
   go_wp2_with fail
   refine bodyPost_ret (z3z rfl _ (b:=E) rfl rfl O.out.zero.2) rfl ⟨O.out.zero.1,.inl ⟨fun h=>HN.out ?_,rfl⟩⟩;rw[j5.out,HD.out];exact(h.2.2.2 q e6).1
  have t9:=qh (z1v.1 G);clear G;have k0:=qh (z4s (sig:=sg) w1 (u7.out.kept (z0c O.out.hb none)) (by omega))
  go_wp2_with fail
  clear r0 r1 r2 r3 f0 f1 f2 f3 e0 e1;refine k0.out.mono ?_;rintro r w2 ⟨rfl,i7⟩;have a7:=qh (O.out.fr (Fr.of_below i7));clear O;have b6:=qh ((i7.block ab (lt_of_block I.out)).trans I.out);clear i7 I k0;have e0:w2.cell? ⟨ab,0,none⟩=some (.slice (A q) nf (C q)):=by simp[World.cell?,b6.out]
  have e1:w2.cell? ⟨ab,1,none⟩=some (.slice (A' q) nt (C' q)):=by simp[World.cell?,b6.out]
  obtain⟨⟨r0,r1,r2,r3⟩,B⟩:=cells4 a7.out.kr;have f0:=B 0;have f1:=B 1;have f2:=B 2;have f3:=B 3;clear B;cases N:z3m nt d.t sg
  ·have hn:=z2i.1 N;have HN:=qh hn;clear hn N
   go_wp2_with fail
   refine bodyPost_ret (z3z rfl _ (b:=E) rfl rfl a7.out.zero.2) rfl ⟨a7.out.zero.1,.inl ⟨fun h=>HN.out ?_,rfl⟩⟩;rw[m3.out,HD.out];exact(h.2.2.2 q e6).2
  have u8:=qh (z1v.1 N);clear N r0 r1 r2 r3 f0 f1 f2 f3
  go_wp2_with fail
  go_roundw
  case rel =>
   refine⟨q+1,by omega,by go_num,?_,fun i hi=>?_,a7.out⟩
   ·rw[r9.out,Int.natCast_add,v0.out]
    try (first|rfl|(rw[IntKind.wrap_i64];congr 1;omega))
   by_cases e:i=q
   ·subst e;rw[<- HD.out,<- j5.out,<- m3.out];exact⟨t9.out,u8.out⟩
   exact k6.out i (by omega)
  simp[intOf];omega
 have l6:q=M.n:=by omega
 have r7:¬ ((q:Int)<(M.n:Int)):=by omega
 have o7:InSg M sg:=fun i hi=>k6.out i (by rw[l6];exact hi);have g9:=qh o7;clear o7;obtain⟨z,hz⟩:=exq (szC M M.n);have v5:=y6h HV.out M.n (Nat.le_refl _);rw[<- hz] at v5;rw[l6,<- hz];have HZ:=qh hz;clear hz;have y0:0<=M.most:=HV.out.m0;have x7:M.most<=6:=HV.out.m6;obtain⟨P,hP⟩:=exq (M.most*((z:Int)-(M.n:Int)));obtain⟨Q,hQ⟩:∃ Q,Q=(M.most+1)*sg:=⟨_,rfl⟩;obtain⟨S,hS⟩:=exq (M.most*(z:Int));have e4:M.most=0\/M.most=1\/M.most=2\/M.most=3\/M.most=4\/M.most=5\/M.most=6:=by omega
 have v4:0<=P/\P<=14400:=by rcases e4 with e|e|e|e|e|e|e<;>rw[e] at hP<;>omega
 have v2:0<=Q/\Q<=3500:=by rcases e4 with e|e|e|e|e|e|e<;>rw[e] at hQ<;>omega
 have v9:0<=S/\S<=14400:=by rcases e4 with e|e|e|e|e|e|e<;>rw[e] at hS<;>omega
 obtain⟨q8,s3⟩:=v4;obtain⟨u2,v8⟩:=v2;obtain⟨v3,s8⟩:=v9;have s7:IntKind.i64.wrap ((z:Int)-(M.n:Int))=(z:Int)-(M.n:Int):=by rw[IntKind.wrap_i64];omega
 have r8:IntKind.i64.wrap (M.most*((z:Int)-(M.n:Int)))=P:=by rw[<- hP,IntKind.wrap_i64];omega
 have v7:IntKind.i64.wrap ((M.most+1)*sg)=Q:=by rw[<- hQ,IntKind.wrap_i64];omega
 have u4:IntKind.i64.wrap (M.most*(z:Int))=S:=by rw[<- hS,IntKind.wrap_i64];omega
 have p0:InSz M sg↔(M.most+1+P<=3000/\Q+S<=30000):=by unfold InSz;rw[<- HZ.out,<- hP,<- hQ,<- hS]
 have i6:=qh p0;clear p0;have HP:=qh hP;clear hP;have HQ:=qh hQ;clear hQ;have HS:=qh hS;clear hS e4;have c0:=c.out.kb.c0;have c1:=c.out.kb.c1;obtain⟨⟨r0,r1,r2,r3⟩,B⟩:=cells4 c.out.kr;have f0:=B 0;have f1:=B 1;have f2:=B 2;have f3:=B 3;clear B;by_cases u1:(3000:Int)<M.most+1+P
 ·go_wp2_with fail
  refine bodyPost_ret (z3z rfl _ (b:=E) rfl rfl c.out.zero.2) rfl ⟨c.out.zero.1,.inr ⟨HV.out,h5,g0,g9.out,.inl ⟨fun h=>by have:=(i6.out.1 h).1;omega,rfl⟩⟩⟩
 have k7:decide ((3000:Int)<M.most+1+P)=false:=by simp;omega
 by_cases g3:(30000:Int)<Q+S
 ·have x1:decide ((30000:Int)<Q+S)=true:=by simp;omega
  have r6:=qh g3;clear g3
  go_wp2_with fail
  refine bodyPost_ret (z3z rfl _ (b:=E) rfl rfl c.out.zero.2) rfl ⟨c.out.zero.1,.inr ⟨HV.out,h5,g0,g9.out,.inl ⟨fun h=>by have:=(i6.out.1 h).2;have:=r6.out;omega,rfl⟩⟩⟩
 have m8:decide ((30000:Int)<Q+S)=false:=by simp;omega
 have j0:=qh (i6.out.2 ⟨by omega,by omega⟩);clear u1 g3;have o9:=qh (y0t 1 wr)
 go_wp2_with fail
 clear k7 m8 r0 r1 r2 r3 f0 f1 f2 f3 s7 r8 v7 u4 q8 s3 u2 v8 v3 s8 c0 c1;refine o9.out.mono ?_;rintro r w4 ⟨rfl,m7⟩;have a4:=qh (c.out.fr (Fr.of_below m7));clear m7 c o9;obtain⟨one,b8⟩:=exq (oneF 1);rw[<- b8];have f8:=qh b8;clear b8;have c1:=a4.out.kb.c1;obtain⟨T,i5⟩:=exq (w4.heap.size);obtain⟨w5,a9⟩:=exq (w4.alloc (.cells #[.int .i64 0,.int .i64 1,.int .i64 0,.string one,.slice none 0 0] 79));have o3:Fr (fun _=>False) w4 w5:=by rw[a9];exact Fr.alloc _ _
 have e9:∃ R sv,Drw w5 w.heap.size T (stC one 0) R sv:=⟨fun _=>.slice none 0 0,.slice none 0 0,by rw[a9,i5];exact heap_alloc_new w4 _,OwM.empty _ _ _ _ _ _,by have:=a4.out.hb.size;omega⟩;have K:=qh (a4.out.fr o3);clear a4 o3;have a6:=qh e9;clear e9;have i9:mb≠T:=by
  rintro rfl;obtain⟨R,sv,h⟩:=a6.out;have h1:=h.blk;have h2:=K.out.kb;unfold BoxE at h2;rw[h2] at h1;simp at h1
 have l4:E≠T:=by
  rintro rfl;obtain⟨R,sv,h⟩:=a6.out;have h1:=h.blk;have h2:=K.out.kr;rw[h2] at h1;simp at h1
 have u3:=qh i9;clear i9;have w7:=qh l4;clear l4;have f9:∀ Z wb D',CE w Z mb E M (.slice a M.n F)->DrE w.heap.size T D' Z wb->CE w wb mb E M (.slice a M.n F):=fun Z wb D' h1 h2 =>
  ⟨h1.hb.trans h2.2.1,by have h3:=h2.2.2.keep h1.kb u3.out (by decide) (by decide);exact h3,h2.2.2.keep h1.kr w7.out (by decide) (by decide),h1.lr⟩
 have d0:=qh f9;clear f9;rw[a9] at K;have d1:=K.out.kb.c1;rw[<- a9] at K
 go_wp2_with fail
 rw[<- a9,<- i5];clear a9 i5 c1 d1
 go_loopw [92] (fun i2 wr=>∃ k:Nat,(k:Int)<=M.most+1/\i2=.int .i64 (k:Int)/\CE w wr mb E M (.slice a M.n F)/\∃ R sv,Drw wr w.heap.size T (stC one k) R sv) (fun i2 _=>(M.most+1).toNat-(intOf i2).toNat)
 case atStart=>exact⟨0,by omega,rfl,K.out,a6.out⟩
 obtain⟨k,hk,rfl,l,g⟩:=hrel;clear K a6;have c:=qh l;clear l;have j:=qh g;clear g;by_cases w8:(k:Int)<M.most+1
 ·obtain⟨R,sv,g⟩:=j.out;have m5:=qh (y8g one wr g c.out.hb.size (by rw[x2b];omega));clear g j
  go_wp2_with fail
  refine m5.out.mono ?_;rintro r w6 ⟨rfl,L⟩;have Y:=qh (d0.out _ _ _ c.out L);clear c;have U:=qh L.1;clear L m5
  go_wp2_with fail
  go_roundw
  case rel=>exact⟨k+1,by omega,by go_num,Y.out,U.out⟩
  simp[intOf];omega
 have b0:(k:Int)=M.most+1:=by omega
 have b9:k=M.most.toNat+1:=by omega
 have u0:=qh b9;clear b9;have c1:=c.out.kb.c1;have g:=j.out;rw[u0.out] at g;have j:=qh g;clear g;obtain⟨D0,b1⟩:=exq (stC one (M.most.toNat+1));rw[<- b1] at j;have p7:Grw D0 7 0:=by rw[b1];exact(x2m one _).mono (by omega) (Nat.le_refl _)
 have p8:D0.n=M.most.toNat+1:=by rw[b1];exact x2b one _
 have o6:=qh b1;clear b1;have t8:=qh p7;clear p7;have t7:=qh p8;clear p8;clear b0
 go_wp2_with fail
 clear c1
 go_loopw [101] (fun b3 wr=>∃ k:Nat,(k:Int)<=M.most+1/\b3=.int .i64 (k:Int)/\CE w wr mb E M (.slice a M.n F)/\∃ R sv,Drw wr w.heap.size T (allC M one sn k D0) R sv) (fun b3 _=>(M.most+1).toNat-(intOf b3).toNat)
 case atStart=>exact⟨0,by omega,rfl,c.out,j.out⟩
 obtain⟨k,hk,rfl,l,g⟩:=hrel;clear c j;have c:=qh l;clear l;have j:=qh g;clear g;have g8:=y8n (one:=one) HV.out (show sn<=500 by have:=d8.out;omega) t8.out k;have h8:k<=M.most.toNat->k<(allC M one sn k D0).n:=fun h=>by have h1:=v9m (M:=M) (one:=one) (sg:=sn) (D:=D0) k;have:=t7.out;omega
 obtain⟨Dk,d5⟩:=exq (allC M one sn k D0);have j6:allC M one sn (k+1) D0=edsC M k M.n (arC one k sn Dk):=by rw[d5];rfl
 rw[<- d5] at j g8 h8;have h0:=qh j6;clear j6;have l8:=qh g8;clear g8;have n0:=qh d5;clear d5;have r5:=qh h8;clear h8;by_cases w8:(k:Int)<M.most+1
 ·have n5:k<Dk.n:=r5.out (by omega);have l0:=qh n5;clear n5
  go_wp2_with fail
  go_loopw [105] (fun b4 wr=>∃ s:Nat,(s:Int)<=sg/\b4=.int .i64 (s:Int)/\CE w wr mb E M (.slice a M.n F)/\∃ R sv,Drw wr w.heap.size T (arC one k s Dk) R sv) (fun b4 _=>sg.toNat-(intOf b4).toNat)
  case atStart=>exact⟨0,by omega,rfl,c.out,j.out⟩
  obtain⟨s,x3,rfl,l,g⟩:=hrel;clear c j;have c:=qh l;clear l;have j:=qh g;clear g;by_cases y3:(s:Int)<sg
  ·obtain⟨R,sv,g⟩:=j.out;have h7:=y9h (one:=one) (k:=k) l8.out s;have g5:=x0e (q:=k) ((s+1:Nat):Int) ((s+1:Nat):Int) (k:Int) one wr g c.out.hb.size (by rw[v6h];exact l0.out) (by have:=h7.n;omega) (by have:=h7.na k;omega);rw[show (((s+1:Nat)):Int)=(s:Int)+1 by omega] at g5;have j8:=qh g5;clear g5 g j h7
   go_wp2_with fail
   refine j8.out.mono ?_;rintro r w6 ⟨rfl,L⟩;have Y:=qh (d0.out _ _ _ c.out L);clear c;have g1:=L.1;rw[<- show (((s+1:Nat)):Int)=(s:Int)+1 by omega] at g1;have U:=qh (show ∃ R sv,Drw w6 w.heap.size T (arC one k (s+1) Dk) R sv from g1);clear L j8 g1
   go_wp2_with fail
   go_roundw
   case rel=>exact⟨s+1,by omega,by go_num,Y.out,U.out⟩
   simp[intOf];omega
  have s4:(s:Int)=sg:=by omega
  have j1:s=sn:=by have:=d8.out;omega
  have g:=j.out;rw[j1] at g;obtain⟨Da,d9⟩:=exq (arC one k sn Dk);have g2:=y9h (one:=one) (k:=k) l8.out sn;have j3:k<Da.n:=by rw[d9,v6h];exact l0.out
  rw[<- d9] at g g2;have h0:=qh (show allC M one sn (k+1) D0=edsC M k M.n Da by rw[d9];exact h0.out);have s6:=qh g2;clear g2;have q9:=qh j3;clear j3;have W:=qh g;clear g j d9 s4 j1;have c0:=c.out.kb.c0
  go_wp2_with fail
  clear c0
  go_loopw [122] (fun c8 wr=>∃ e:Nat,e<=M.n/\c8=.int .i64 (e:Int)/\CE w wr mb E M (.slice a M.n F)/\∃ R sv,Drw wr w.heap.size T (edsC M k e Da) R sv) (fun c8 _=>M.n-(intOf c8).toNat)
  case atStart=>exact⟨0,Nat.zero_le _,rfl,c.out,W.out⟩
  obtain⟨e,x9,rfl,l,g⟩:=hrel;clear c W;have c:=qh l;clear l;have j:=qh g;clear g;by_cases l7:e<M.n
  ·have x4:(e:Int)<(M.n:Int):=by omega
   have w9:(0:Int)<=(e:Int):=by omega
   obtain rfl:=HA.out (by omega);have a2:=(HB.out (by omega)).1;obtain⟨k1,k2,k3,k4,k5⟩:=HR.out e l7;have n9:=y9x HV.out (k:=k) s6.out e (by omega);have j2:k<(edsC M k e Da).n:=Nat.lt_of_lt_of_le q9.out (v0a e);have a5:sn<=500:=by have:=d8.out;omega
   have s5:=qh (HV.out.ok e l7);have f7:edsC M k (e+1) Da=if (k:Int)<M.most then (edC (M.e e) (mxE (M.e e)) (k+1) (mxE (M.e e)) (edsC M k e Da,k,(M.e e).w)).1 else edsC M k e Da:=rfl
   have f5:=qh f7;clear f7;obtain⟨Z,J⟩:=exq (wr.alloc (.cells #[.slice (A e) (M.e e).nf (C e),.slice (A' e) (M.e e).nt (C' e),.string (M.e e).w] 50));have a1:Fr (fun _=>False) wr Z:=by rw[J];exact Fr.alloc _ _
   obtain⟨R,sv,g⟩:=j.out;have c6:Drw Z w.heap.size T (edsC M k e Da) R sv:=⟨(a1.block T g.lt (fun e=>e)).trans g.blk,g.own.kept (z:=none) (Fr.gb (a1.mono (fun _ _ e=>e.elim))) (by simp),g.low⟩;have X:=c.out.fr a1;have h9:=v2r (fr:=k) (t:=k+1) w Z X.hb (Nat.le_refl _) ⟨R,sv,c6⟩ X.hb.size k4 k5 s5.out j2 (n9.mono (by omega) (by omega));rw[show (((k+1:Nat)):Int)=(k:Int)+1 by omega] at h9;have n6:=qh h9;clear h9;have c0:=(c.out.hb.cell (p:=⟨b,a8+e*3,none⟩) a2).trans k1;have c1:=(c.out.hb.cell (p:=⟨b,a8+e*3+1,none⟩) a2).trans k2;have c2:=(c.out.hb.cell (p:=⟨b,a8+e*3+2,none⟩) a2).trans k3;have m1:=X.kb.c1;rw[J] at m1;have H:=qh X;clear X;have W:=qh (show ∃ R sv,Drw Z w.heap.size T (edsC M k e Da) R sv from ⟨R,sv,c6⟩);clear k1 k2 k3 k4 k5 a1 g c6 j c n9 j2 a5;by_cases b0:(k:Int)<M.most
   ·have b5:edsC M k (e+1) Da=(edC (M.e e) (mxE (M.e e)) (k+1) (mxE (M.e e)) (edsC M k e Da,k,(M.e e).w)).1:=by rw[f5.out,if_pos b0]
    have i8:=qh b5;clear b5
    go_wp2_with fail
    rw[<- J];clear J c0 c1 c2 m1;refine n6.out.mono ?_;rintro r w6 ⟨rfl,L⟩;have Y:=qh (d0.out _ _ _ H.out L);clear H;have U:=qh (show ∃ R sv,Drw w6 w.heap.size T (edsC M k (e+1) Da) R sv by rw[i8.out];exact L.1);clear L n6 W
    go_wp2_with fail
    go_roundw
    case rel=>exact⟨e+1,by omega,by go_num,Y.out,U.out⟩
    simp[intOf];omega
   have b5:edsC M k (e+1) Da=edsC M k e Da:=by rw[f5.out,if_neg b0]
   have i8:=qh b5;clear b5
   go_wp2_with fail
   rw[<- J];clear J c0 c1 c2 m1;go_roundw
   case rel=>exact⟨e+1,by omega,by go_num,H.out,by rw[i8.out];exact W.out⟩
   simp[intOf];omega
  have l5:e=M.n:=by omega
  have r7:¬ ((e:Int)<(M.n:Int)):=by omega
  have g:=j.out;rw[l5] at g;have o8:=qh g;clear g j l5
  go_wp2_with fail
  go_roundw
  case rel=>exact⟨k+1,by omega,by go_num,c.out,by rw[h0.out];exact o8.out⟩
  simp[intOf];omega
 have b0:(k:Int)=M.most+1:=by omega
 have b9:k=M.most.toNat+1:=by omega
 have l9:Dk=cmpC M sn:=by rw[n0.out,b9,o6.out,f8.out];rfl
 have u5:HdM Dk one:=by rw[n0.out];exact y3g (by rw[o6.out];exact y8c one _) k
 obtain⟨h1,h2,h3⟩:=u5;obtain⟨R,sv,g⟩:=j.out;have u:=g.blk;rw[h1,h2,h3] at u;obtain⟨sa,sc,h6,_,_⟩:=z5r g.own.top;rw[h6] at u;have d1:wr.cell? ⟨T,1,none⟩=some (.int .i64 1):=by simp[World.cell?,u]
 have d2:wr.cell? ⟨T,2,none⟩=some (.int .i64 0):=by simp[World.cell?,u]
 have d3:wr.cell? ⟨T,3,none⟩=some (.string one):=by simp[World.cell?,u]
 have d4:wr.cell? ⟨T,4,none⟩=some (.slice sa Dk.n sc):=by simp[World.cell?,u]
 obtain⟨⟨r0,r1,r2,r3⟩,B⟩:=cells4 c.out.kr;have f0:=B 0;have f1:=B 1;have f2:=B 2;have f3:=B 3;have i3:=qh g.own;have w0:=qh h6;have r4:=qh l9;clear B u g h6 l9 h1 h2 h3 b0 b9
 go_wp2_with fail
 refine bodyPost_ret (z3z rfl _ (b:=E) rfl rfl (x5v wr E _ _ _ _ c.out.kr)) rfl ⟨z8m c.out.hb c.out.lr _ _ _ _,.inr ⟨HV.out,h5,g0,g9.out,.inr ⟨j0.out,sv,R,by rw[<- f8.out,w0.out];rfl,?_⟩⟩⟩;have n3:sg.toNat=sn:=by have:=d8.out;omega
 rw[n3,<- r4.out];have e7:∀ i,i<Dk.n->(R i).ownBlock≠some E:=fun i hi=>z3d (i3.out.row i hi) c.out.kr (by decide);have e5:sv.ownBlock≠some E:=z3d i3.out.top c.out.kr (by decide);exact(((i3.out.other (p:=⟨E,0,none⟩) e5 e7 _).other (p:=⟨E,0+1,none⟩) e5 e7 _).other (p:=⟨E,0+1+1,none⟩) e5 e7 _).other (p:=⟨E,0+1+1+1,none⟩) e5 e7 _
end
end Go.Proofs.YtjekapjbigfkbaaGreatDoor
