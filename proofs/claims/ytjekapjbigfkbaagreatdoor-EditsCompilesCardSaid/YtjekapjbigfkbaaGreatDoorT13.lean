/- Parts of a proof: WgW EdX EdY EdN. -/
import Derived.Test.YtjekapjbigfkbaaGreatDoorT09
import Derived.Test.YtjekapjbigfkbaaGreatDoorT12
import Derived.Laws.ResultCell
import Derived.Test.YtjekapjbigfkbaaGreatDoorT10
namespace Go.Proofs.YtjekapjbigfkbaaGreatDoor
set_option maxRecDepth 100000
set_option linter.unusedSimpArgs false
set_option linter.unusedVariables false
set_option linter.unusedSectionVars false
set_option maxHeartbeats 16000000
open Go Tryz
section
open Go.RowKit Go.Deep
def WgtE (D:MD) (na:Nat) (x:Nat->Int) (nb:Nat) (y:Nat->Int) (w:World) (r:Ending) (w':World):Prop :=
 Below w.heap.size w w'/\((VM D/\isWord na x=true/\isWord nb y=true/\r=.returned (.tuple #[.string (wgtC D na x nb y).1,.int .i64 ((wgtC D na x nb y).2:Int)])) \/
  (¬ (VM D/\isWord na x=true/\isWord nb y=true)/\r=.returned (.tuple #[.string ⟨#[]⟩,.int .i64 1])))
theorem x2f:(prog.info? 124).map (fun i=>(i.zero,i.size,i.bytes))=some (some (.slice none 0 0),1,24):=by kernel_rfl
theorem Bx.ne_scl {w:World} {b d e:Nat} {t:TypeId} {v:Value} {D:MD} {sv star:Value} (h:Bx w b t v) (c:Scl w d D sv star e):b≠d:=by
 rintro rfl;unfold Scl at c;unfold Bx at h;rw[h] at c;simp at c
def ixOf (v:Value) (w:World):Nat:=match v with | .pointer (some a)=>(match w.cell? a with|some (.int _ i)=>i.toNat|_=>0)|_=>0
theorem y9s {w:World} {b i:Nat} (h:w.cell? ⟨b,0,none⟩=some (.int .i64 (i:Int))):ixOf (.pointer (some ⟨b,0,none⟩)) w=i:=by
 unfold ixOf;simp[h]
theorem x8u {D:MD} {mv xv yv:Value} {na nb:Nat} {x y:Nat->Int} (w:World) (hM:Ma none w mv D) (E8:MSz D) (ht:Tab w) (hx:Si none w xv na x) (hy:Si none w yv nb y) (H9:(na:Int)<=9223372036854775807) (G9:(nb:Int)<=9223372036854775807) (J6:NoSil D) :
  Calls prog 38 #[mv,xv,yv] w (WgtE D na x nb y w):=by
 obtain⟨sv,rfl,hS⟩:=hM;obtain⟨a,cap,b,L3,A,C,BB,O,i7,_⟩:=hS.open;obtain⟨ax,cx,rfl⟩:=hx.shape;obtain⟨ay,cy,rfl⟩:=hy.shape;subst i7;obtain⟨w1,u9⟩:=exq (w.alloc (.cells #[.int .i64 D.kind,.int .i64 D.start,.string D.lead,.slice a D.n cap] 36));obtain⟨w2,y5⟩:=exq (w1.alloc (.cells #[.slice ax na cx] 27));obtain⟨w3,u7⟩:=exq (w2.alloc (.cells #[.slice ay nb cy] 27));have F5:w1.heap.size=w.heap.size+1:=by rw[u9];simp
 have E2:w2.heap.size=w.heap.size+1+1:=by rw[y5];simp[F5]
 have J8:w3.heap.size=w.heap.size+1+1+1:=by rw[u7];simp[E2]
 have I0:Fr (fun _=>False) w w1:=by rw[u9];exact Fr.alloc _ _
 have c9:Fr (fun _=>False) w1 w2:=by rw[y5];exact Fr.alloc _ _
 have A0:Fr (fun _=>False) w2 w3:=by rw[u7];exact Fr.alloc _ _
 have B8:BoxM w1 w.heap.size D (.slice a D.n cap):=by rw[u9];exact BoxM.new w D _
 have l9:BoxM w3 w.heap.size D (.slice a D.n cap):=(((A0.block _ (by omega) (fun e=>e)).trans (c9.block _ (by omega) (fun e=>e))).trans B8);have E0:Bx w2 (w.heap.size+1) 27 (.slice ax na cx):=by rw[<- F5,y5];exact heap_alloc_new w1 _
 have E5:Bx w3 (w.heap.size+1) 27 (.slice ax na cx):=E0.kept A0 (fun e=>e);have G6:Bx w3 (w.heap.size+1+1) 27 (.slice ay nb cy):=by rw[<- E2,u7];exact heap_alloc_new w2 _
 have A3:Below w.heap.size w w3:=((I0.trans c9).trans A0).below (Nat.le_refl _) (fun _ e=>e.elim);obtain⟨mb,E1⟩:=exq (w.heap.size);obtain⟨xb,E4⟩:=exq (w.heap.size+1);obtain⟨yb,G4⟩:=exq (w.heap.size+1+1);rw[<- E1] at l9;rw[<- E4] at E5;rw[<- G4] at G6;have L8:w.heap.size<=mb:=by omega
 have m0:=l9.c0;have m1:=l9.c1;have m2:=l9.c2;have m3:=l9.c3;have H2:=qh (x7j w3 (⟨_,rfl,hS.kept (z0c A3 none)⟩:Ma none w3 (.agg #[.int .i64 D.kind,.int .i64 D.start,.string D.lead,.slice a D.n cap]) D) E8 (ht.below A3 (Nat.le_refl _)));clear I0 c9 A0 B8 E0 F5 E2 J8;have G1:=qh A3;clear A3;have G7:=qh l9;clear l9;have r6:=qh E5;clear E5;have r1:=qh G6;clear G6;have j0:=qh E8;clear E8;have l6:=qh ht;clear ht;have HX:=qh hx;clear hx;have HY:=qh hy;clear hy;have i9:=qh hS;clear hS;have K7:=qh J6;clear J6
 go_enter func38,ntmps38
 go_wp2_with fail
 rw[<- u9,<- y5,<- u7,<- G4,<- E4,<- E1];clear u9 y5 u7 E1 E4 G4 m0 m1 m2 m3;refine H2.out.mono ?_;rintro r w4 ⟨s9,hr⟩;have B7:=G1.out.trans (s9.mono G1.out.size);have C0:BoxM w4 mb D (.slice a D.n cap):=(s9.block _ G7.out.lt).trans G7.out;have r2:Bx w4 xb 27 (.slice ax na cx):=(s9.block _ r6.out.lt).trans r6.out;have B3:Bx w4 yb 27 (.slice ay nb cy):=(s9.block _ r1.out.lt).trans r1.out;have c4:=r2.cell;have g1:=qh B7;clear B7 s9 G1 H2;have j4:=qh C0;clear C0 G7;have v0:=qh r2;clear r2 r6;have o5:=qh B3;clear B3 r1
 rcases hr with ⟨hv,rfl⟩|⟨hv,rfl⟩
 rotate_left
 ·have HV:=qh hv;clear hv
  go_wp2_with fail
  go_ret2;exact⟨g1.out,.inr ⟨fun h=>HV.out h.1,rfl⟩⟩
 have HV:=qh hv;clear hv;have H6:=qh (x7b w4 (HX.out.kept (z0c g1.out none)) H9)
 go_wp2_with fail
 refine H6.out.mono ?_;rintro r K4 ⟨rfl,rfl⟩;cases o8:isWord na x
 ·go_wp2_with fail
  go_ret2;exact⟨g1.out,.inr ⟨fun h=>absurd h.2.1 (by rw[o8];simp),rfl⟩⟩
 have L1:na<=200:=by unfold isWord at o8;simp at o8;exact o8.1
 have E3:=qh o8;clear o8 H6 H9;have d4:=o5.out.cell;have J3:=qh (x7b K4 (HY.out.kept (z0c g1.out none)) G9)
 go_wp2_with fail
 refine J3.out.mono ?_;rintro r w5 ⟨rfl,rfl⟩;cases p7:isWord nb y
 ·go_wp2_with fail
  go_ret2;exact⟨g1.out,.inr ⟨fun h=>absurd h.2.2 (by rw[p7];simp),rfl⟩⟩
 have K9:nb<=200:=by unfold isWord at p7;simp at p7;exact p7.1
 have F1:=qh p7;clear p7 J3 G9 c4;have m0:=j4.out.c0;have m1:=j4.out.c1;have m2:=j4.out.c2;have m3:=j4.out.c3;have I1:=qh (v7i w5 HV.out (i9.out.kept (z0c g1.out none)) K7.out)
 go_wp2_with fail
 refine I1.out.mono ?_;rintro r w6 ⟨B2,B,rfl,H7,J0⟩;obtain⟨m,hm⟩:=exq (nb+1);have A7:=run_make_row' (P:=prog) 123 124 (.slice none 0 0) 24 underlying123 x2f rfl .i64 .i64 m (by omega) (by omega);have v7:((m:Nat):Int)=(nb:Int)+1:=by omega
 rw[v7] at A7;have HM:=qh hm;clear hm;have r5:=g1.out.trans (B2.mono g1.out.size);have C8:Bx w6 xb 27 (.slice ax na cx):=(B2.block _ v0.out.lt).trans v0.out;have D0:Bx w6 yb 27 (.slice ay nb cy):=(B2.block _ o5.out.lt).trans o5.out;obtain⟨w7,l7⟩:=exq (w6.alloc (.cells #[.pointer (some ⟨B,0,none⟩)] 120));obtain⟨c8,F4⟩:=exq (w6.heap.size);have o9:Fr (fun _=>False) w6 w7:=by rw[l7];exact Fr.alloc _ _
 have h8:Bx w7 c8 120 (.pointer (some ⟨B,0,none⟩)):=by rw[l7,F4];exact heap_alloc_new w6 _
 have I7:w.heap.size<=B:=Nat.le_trans g1.out.size H7;have c:WE w w7 B c8 xb yb D (.slice a D.n cap) (.slice ax na cx) (.slice ay nb cy) 0:=⟨r5.trans (o9.below r5.size (fun _ e=>e.elim)),J0.kept o9 (fun e=>e),h8,C8.kept o9 (fun e=>e),D0.kept o9 (fun e=>e),I7⟩;have d6:=c.ky.cell;obtain⟨w8,r3⟩:=exq (w7.alloc (.cells (madeCells #[.slice none 0 0] m) 124));have I9:w7.heap.size=w6.heap.size+1:=by rw[l7];simp
 obtain⟨g,hg⟩:=exq (w6.heap.size+1);have H8:Fr (fun _=>False) w7 w8:=by rw[r3];exact Fr.alloc _ _
 have m4:w8.rowIs g 124 m (fun _=>.slice none 0 0):=by rw[r3,hg,<- I9];exact World.rowIs_made w7 (.slice none 0 0) m 124
 have o2:=c.kept H8 (fun e=>e) (fun e=>e) (fun e=>e) (fun e=>e) (fun _ e=>e.elim);have k8:=o2.k8.cell;have H5:=qh (x8a w8 o2.sc HV.out.n1 (by have:=HV.out.n2;omega) HV.out.s0 HV.out.s1);have f0:=m4.frozen 0;have F8:w.heap.size<=g:=by have:=c.hb.size;omega
 have y4:=qh o2;clear o2 c;have k9:=qh m4;clear m4;have K2:=qh o9;clear o9;have I6:g<w8.heap.size:=k9.out.lt;have I3:Below w.heap.size w w8:=y4.out.hb;clear r5 C8 D0 v0 o5 j4 g1 B2 J0 H7 m0 m1 m2 m3 d4 I1 h8 H8 I9;rw[l7] at d6;rw[r3,l7] at k8
 go_wp2_with fail
 rw[<- hg,<- F4,<- l7,<- r3];clear d6 k8 l7 r3 F4 hg K2 A7 v7;refine H5.out.mono ?_;rintro r w9 ⟨rfl,r4,F9⟩;obtain⟨r0,a1⟩:=exq (w8.heap.size);rw[<- a1] at r4;rw[<- a1];have i4:=y4.out.kept F9 (fun e=>e) (fun e=>e) (fun e=>e) (fun e=>e) (fun _ e=>e.elim);have b3:=F9.row k9.out (fun e=>e);have K0:(0:Int)<(m:Int):=by have:=HM.out;omega
 have f0:=b3.frozen 0;have g0:=b3.cell (i:=0) (by have:=HM.out;omega);have J5:g≠r0:=by omega
 have H4:Fr (fun q=>q=g) w9 (w9.setCell ⟨g,0,none⟩ (.slice (some ⟨r0,0,none⟩) D.n D.n)):=(Fr.refl (fun q=>q=g) w9).set (p:=⟨g,0,none⟩) (.inl rfl) _;have y1:WE w (w9.setCell ⟨g,0,none⟩ (.slice (some ⟨r0,0,none⟩) D.n D.n)) B c8 xb yb D (.slice a D.n cap) (.slice ax na cx) (.slice ay nb cy) 0 :=
  i4.kept H4 (fun e=>z0e b3 i4.sc (by decide) e.symm) (fun e=>z0e b3 i4.k8 (by decide) e.symm) (fun e=>z0e b3 i4.kx (by decide) e.symm) (fun e=>z0e b3 i4.ky (by decide) e.symm) (fun q e=>by rw[e];exact F8)
 have z5:VR1 (w9.setCell ⟨g,0,none⟩ (.slice (some ⟨r0,0,none⟩) D.n D.n)) w.heap.size g m D.n (fun j=>if j=0 then some r0 else none) (fun j=>if j=0 then some (y7n D) else none):=by
  refine⟨(b3.set 0 _).congr (fun j _=>?_),F8,fun j _=>?_,fun j r x hj N h2=>?_,fun j j' r hj M0 N h2=>?_,fun j x N q=>?_⟩
  ·by_cases e:j=0
   ·rw[if_pos e,if_pos e];rfl
   rw[if_neg e,if_neg e];rfl
  ·by_cases e:j=0
   ·rw[if_pos e,if_pos e];simp
   rw[if_neg e,if_neg e];simp
  ·by_cases e:j=0
   ·rw[if_pos e] at N h2;cases N;cases h2;exact⟨r4.setOther (a:=⟨g,0,none⟩) (fun e=>J5 e.symm) _,by have:=I3.size;omega⟩
   rw[if_neg e] at N;cases N
  ·by_cases e:j=0
   ·by_cases e':j'=0
    ·rw[e,e']
    rw[if_neg e'] at h2;cases h2
   rw[if_neg e] at N;cases N
  by_cases e:j=0
  ·rw[if_pos e] at N;cases N;unfold y7n;split
   ·exact j0.out.lead
   exact y4k 0
  rw[if_neg e] at N;cases N
 have l4:=qh y1;clear y1 H4;have m5:=qh z5;clear z5;clear H5 F9 r4 i4 b3 k9 y4 J5 a1 I6 I3;obtain⟨p0,o6⟩:=exq (w9.setCell ⟨g,0,none⟩ (.slice (some ⟨r0,0,none⟩) D.n D.n));rw[<- o6] at l4 m5;obtain⟨z9,x4⟩:=exq (w9.heap.size);have C2:p0.heap.size=w9.heap.size:=by rw[o6,nblk_setCell]
 obtain⟨B1,n7⟩:=exq (p0.alloc (.cells #[.int .i64 0] 3));have s7:Fr (fun _=>False) p0 B1:=by rw[n7];exact Fr.alloc _ _
 have u0:Bx B1 z9 3 (.int .i64 ((0:Nat):Int)):=by rw[n7,x4,<- C2];exact heap_alloc_new p0 _
 have r8:=qh (l4.out.kept s7 (fun e=>e) (fun e=>e) (fun e=>e) (fun e=>e) (fun _ e=>e.elim));clear l4;have z4:=qh (m5.out.kept s7);clear m5 s7;have y8:=qh u0;clear u0
 go_wp2_with fail
 rw[<- o6,<- n7,<- x4];clear n7 x4 C2 o6 f0 g0 K0;have M2:m<=201:=by have:=HM.out;omega
 go_loopw [9,10] (fun v9 E9 wr=>∃ (i e g ib:Nat) (R:Nat->Option Nat) (S:Nat->Option VV),i<=na+1/\v9=.slice (some ⟨g,0,none⟩) m m/\E9=.pointer (some ⟨ib,0,none⟩)/\Bx wr ib 3 (.int .i64 (i:Int))/\VR1 wr w.heap.size g m D.n R S /\
  WE w wr B c8 xb yb D (.slice a D.n cap) (.slice ax na cx) (.slice ay nb cy) e/\outC D na x nb y (na+1-i) i S e=wgtC D na x nb y) (fun _ E9 wr=>na+2-ixOf E9 wr)
 case atStart=>exact⟨0,0,g,z9,_,_,Nat.zero_le _,rfl,rfl,y8.out,z4.out,r8.out,rfl⟩
 obtain⟨i,e,g,ib,R,S,hi,rfl,rfl,G,k,c,d0⟩:=hrel;clear y8 z4 r8 F8;have J:=qh G;clear G;have T:=qh k;clear k;have o:=qh c;clear c;have z7:=qh d0;clear d0;have HI:=qh (y9s J.out.cell);have ci:=J.out.cell;have b2:=o.out.kx.cell;have J9:=o.out.k8.cell;have c5:=o.out.sc.c5;by_cases k1:i<=na/\e=0
 ·obtain⟨M3,rfl⟩:=k1;have M1:(i:Int)<=(na:Int):=by omega
  have b1:=o.out.ky.cell;have A7:=run_make_row' (P:=prog) 123 124 (.slice none 0 0) 24 underlying123 x2f rfl .i64 .i64 m (by have:=HM.out;omega) (by have:=HM.out;omega);have v7:((m:Nat):Int)=(nb:Int)+1:=by have:=HM.out;omega
  rw[v7] at A7;clear v7;have L5:∀ (fn:Fn) (first cap:Array Value) (w:World),(Instr.makeFunc fn first cap).run prog w=.ok (.func fn first cap) w:=fun _ _ _ _=>rfl
  obtain⟨wn,A1⟩:=exq (wr.alloc (.cells (madeCells #[.slice none 0 0] m) 124));obtain⟨g2,G3⟩:=exq (wr.heap.size);have A4:Fr (fun _=>False) wr wn:=by rw[A1];exact Fr.alloc _ _
  have v6:wn.rowIs g2 124 m (fun _=>.slice none 0 0):=by rw[A1,G3];exact World.rowIs_made wr (.slice none 0 0) m 124
  have n5:=T.out.two A4 (show wr.heap.size<=g2 by omega) o.out.hb.size v6;obtain⟨gg,A5⟩:∃ gg:Bool->Nat,gg=fun b=>if b then g2 else g:=⟨_,rfl⟩
  rw[<- A5] at n5;have J4:gg false=g:=by rw[A5];rfl
  have J1:gg true=g2:=by rw[A5];rfl
  have b6:=qh J4;clear J4;have p6:=qh J1;clear J1 A5;obtain⟨R2,I8⟩:∃ R2:Bool->Nat->Option Nat,R2=fun b=>if b then fun _=>none else R:=⟨_,rfl⟩
  rw[<- I8] at n5;clear I8;have D5:=qh (o.out.kept A4 (fun e=>e) (fun e=>e) (fun e=>e) (fun e=>e) (fun _ e=>e.elim));clear o;have D4:=qh (J.out.kept A4 (fun e=>e));clear J;have D7:=qh n5;clear n5 T A4 v6
  go_wp2_with fail
  rw[<- G3,<- A1];clear G3 A1 ci b2 J9 c5 b1;obtain⟨s0,B0⟩:∃ s0:RS,s0=(twoR S (fun _=>none),0):=⟨_,rfl⟩;have I2:=qh B0
  go_loopw [57] (fun F7 wr=>∃ (j:Nat) (R:Bool->Nat->Option Nat) (s:RS),j<=m/\F7=.int .i64 (j:Int)/\s=colC D na x nb y i j s0/\VR wr w.heap.size gg m D.n R s.1/\WE w wr B c8 xb yb D (.slice a D.n cap) (.slice ax na cx) (.slice ay nb cy) s.2/\Bx wr ib 3 (.int .i64 (i:Int))) (fun F7 _=>m-(intOf F7).toNat)
  case atStart=>exact⟨0,R2,s0,Nat.zero_le _,rfl,rfl,by rw[B0];exact D7.out,by rw[B0];exact D5.out,D4.out⟩
  obtain⟨j,R,s1,hj,rfl,I5,k,c,G⟩:=hrel;clear D7 D5 D4 B0;have T:=qh k;clear k;have o:=qh c;clear c;have J:=qh G;clear G;have G5:=qh I5;clear I5;by_cases a6:j<m
  ·have g7:=qh a6;have L9:(j:Int)<(m:Int):=by omega
   have K8:(0:Int)<=(j:Int):=by omega
   obtain⟨wj,k3⟩:=exq (wr.alloc (.cells #[.int .i64 (j:Int)] 3));obtain⟨jb,F⟩:=exq (wr.heap.size);have A6:Fr (fun _=>False) wr wj:=by rw[k3];exact Fr.alloc _ _
   have G8:Bx wj jb 3 (.int .i64 (j:Int)):=by rw[k3,F];exact heap_alloc_new wr _
   have x0:=T.out.kept A6 (fun _ e=>e) (fun _ _ _ _ _ e=>e);have hg:=(x0.top false).cell a6;rw[b6.out] at hg;have v5:=qh (o.out.kept A6 (fun e=>e) (fun e=>e) (fun e=>e) (fun e=>e) (fun _ e=>e.elim));clear o;have u3:=qh (J.out.kept A6 (fun e=>e));clear J;have B6:=qh G8;clear G8;have j8:=qh x0;clear x0 T A6;cases i7:s1.1 false j with
   | none =>
    have hr:=(j8.out.non false j a6).2 i7;rw[hr] at hg;have k7:wj.cell? ⟨g,j,none⟩=some (.slice none 0 0):=hg;have hq:=fun w=>y2r 124 9 underlying124 w none 0 0;rw[show (none:Option Addr).isNone=true from rfl] at hq;rw[k3] at k7;have j6:colC D na x nb y i (j+1) s0=s1:=by show x9m D na x nb y i j (colC D na x nb y i j s0)=s1;rw[<- G5.out];unfold x9m;rw[i7]
    have h7:=qh j6;clear j6 i7 hr hg
    go_wp2_with fail
    rw[<- k3];go_roundw
    case rel=>exact⟨j+1,R,s1,by have:=g7.out;omega,by go_num,h7.out.symm,j8.out,v5.out,u3.out⟩
    simp[intOf];have:=g7.out;omega
   | some v =>
    obtain⟨rv,k4,_,_⟩:=j8.out.some_of a6 i7;rw[k4] at hg;have k7:wj.cell? ⟨g,j,none⟩=some (.slice (some ⟨rv,0,none⟩) D.n D.n):=hg;have hq:=fun w=>y2r 124 9 underlying124 w (some ⟨rv,0,none⟩) D.n D.n;rw[show (some (⟨rv,0,none⟩:Addr)).isNone=false from rfl] at hq;have j6:colC D na x nb y i (j+1) s0=cell3 D na x nb y i j v (cell2 D na x i j v (cell1 D nb y j v s1)):=by show x9m D na x nb y i j (colC D na x nb y i j s0)=_;rw[<- G5.out];unfold x9m;rw[i7]
    have h7:=qh j6;clear j6;have o4:=qh i7;clear i7;have d3:=qh k4;clear k4;rw[k3] at k7
    go_wp2_with fail
    rw[<- F,<- k3];clear k3 F k7 hg hq;have b9:Fr (fun _=>False) wj wj.drew:=(Fr.refl _ _).drew;obtain⟨wd,e1⟩:=exq (wj.drew);rw[<- e1] at b9;have E:=v5.out.kept b9 (fun e=>e) (fun e=>e) (fun e=>e) (fun e=>e) (fun _ e=>e.elim);have a5:=j8.out.kept b9 (fun _ e=>e) (fun _ _ _ _ _ e=>e);have h4:=u3.out.kept b9 (fun e=>e);have e3:=B6.out.kept b9 (fun e=>e);have Y:wd.cell? ⟨c8,0,none⟩=some (.pointer (some ⟨B,0,none⟩))/\wd.cell? ⟨jb,0,none⟩=some (.int .i64 (j:Int))/\wd.cell? ⟨g,j,none⟩=some (.slice (some ⟨rv,0,none⟩) D.n D.n) :=
     ⟨E.k8.cell,e3.cell,by have N:=(a5.top false).cell a6;rw[b6.out,d3.out] at N;exact N⟩
    have k5:=a5.same false (j:=j);rw[b6.out,d3.out] at k5;have n3:VR (wd.setCell ⟨g,j,none⟩ (.slice (some ⟨rv,0,none⟩) D.n D.n)) w.heap.size gg m D.n R s1.1:=k5;have n6:Fr (fun q=>q=g) wd (wd.setCell ⟨g,j,none⟩ (.slice (some ⟨rv,0,none⟩) D.n D.n)):=(Fr.refl (fun q=>q=g) wd).set (p:=⟨g,j,none⟩) (.inl rfl) _;have H:∀ q cs t fr,wd.heap[q]?=some (.cells cs t fr)->t≠124->¬ (q=g):=fun q cs t fr N h2 e=>a5.gne_of N h2 false (by rw[b6.out];exact e.symm);have D2:=E.kept n6 (H B _ _ _ E.sc (by decide)) (H c8 _ _ _ E.k8 (by decide)) (H xb _ _ _ E.kx (by decide)) (H yb _ _ _ E.ky (by decide)) (fun q e=>by rw[e,<- b6.out];exact a5.low false);have C3:=h4.kept n6 (H ib _ _ _ h4 (by decide));have D1:=e3.kept n6 (H jb _ _ _ e3 (by decide));have fg:=(a5.top false).frozen j;rw[b6.out] at fg;have H1:=qh (v8f (v:=.slice (some ⟨rv,0,none⟩) D.n D.n) wd E.sc rfl);have T:=qh n3;clear n3 k5;have o:=qh D2;clear D2 E v5;have J:=qh C3;clear C3 h4 u3;have a7:=qh D1;clear D1 e3 B6;clear a5 j8 b9 n6 H;refine z0g (fun W=>W.cell? ⟨c8,0,none⟩=some (.pointer (some ⟨B,0,none⟩))/\W.cell? ⟨jb,0,none⟩=some (.int .i64 (j:Int))/\W.cell? ⟨g,j,none⟩=some (.slice (some ⟨rv,0,none⟩) D.n D.n)) 9 (by kernel_rfl) ?_;rw[<- e1];clear e1;refine z0b.tl 0 Y (v:=?vr0) ?Xy ?Zc
    case Xy=>rintro U ⟨l,u,z⟩;go_simp;try with_reducible rfl
    refine z0b.tl 1 Y (v:=?vr1) ?Yd ?Yy
    case Yd=>rintro U ⟨l,u,z⟩;go_simp;try with_reducible rfl
    refine z0b.tl 2 Y (v:=?vr2) ?Xw ?Zb
    case Xw=>rintro U ⟨l,u,z⟩;go_simp;try with_reducible rfl
    refine z0b.tl 3 Y (v:=?vr3) ?Yn ?Yx
    case Yn=>rintro U ⟨l,u,z⟩;go_simp;try with_reducible rfl
    refine z0b.tl 4 Y (v:=?vr4) ?Xs ?Zi
    case Xs=>rintro U ⟨l,u,z⟩;go_simp;try with_reducible rfl
    refine z0b.tl 5 Y (v:=?vr5) ?Xv ?Zh
    case Xv=>rintro U ⟨l,u,z⟩;go_simp;try with_reducible rfl
    refine z0b.tl 6 Y (v:=?vr6) ?Yh ?Ys
    case Yh=>rintro U ⟨l,u,z⟩;go_simp;try with_reducible rfl
    try simp only[Act.put,tryL]
    refine z0b.on 7 fun K X=>?_;go_simp;refine H1.out.mono ?_;rintro r Z ⟨rfl,rfl⟩;refine X.out _ _ (.inr Y) ?_;clear X K
    try simp only[Act.put,tryL]
    refine z0b.tl 8 Y (v:=?vq8) ?Yl ?Zg
    case Yl=>rintro U ⟨l,u,z⟩;go_simp;try with_reducible rfl
    try simp only[Act.put,tryL]
    have g0:=Y.2.2;refine z0b.on 9 fun K X=>?_;go_simp;refine X.out _ _ (.inl rfl) (z0b.done (by kernel_rfl) ?_ _);clear X K H1;obtain⟨ws,F0⟩:=exq (Z.setCell ⟨g,j,none⟩ (.slice (some ⟨rv,0,none⟩) D.n D.n));rw[<- F0] at T o J a7;rw[<- F0];clear F0 Y fg g0;by_cases j5:j<nb
    ·have I4:(j:Int)<(nb:Int):=by omega
     have ci:=J.out.cell;have cj:=a7.out.cell;have b2:=o.out.kx.cell;have b1:=o.out.ky.cell
     go_wp2_with fail
     clear ci cj b2 b1;have a9:=qh (show (j+1)<m by have:=HM.out;omega);have h5:Fr (fun _=>False) ws ws.drew:=(Fr.refl _ _).drew;obtain⟨l5,t9⟩:=exq (ws.drew);rw[<- t9] at h5;have Q:=o.out.kept h5 (fun e=>e) (fun e=>e) (fun e=>e) (fun e=>e) (fun _ e=>e.elim);have m8:=T.out.kept h5 (fun _ e=>e) (fun _ _ _ _ _ e=>e);have C9:=J.out.kept h5 (fun e=>e);have u4:=a7.out.kept h5 (fun e=>e);have e5:l5.cell? ⟨c8,0,none⟩=some (.pointer (some ⟨B,0,none⟩))/\l5.cell? ⟨jb,0,none⟩=some (.int .i64 (j:Int))/\l5.cell? ⟨g,j,none⟩=some (.slice (some ⟨rv,0,none⟩) D.n D.n) :=
      ⟨Q.k8.cell,u4.cell,by have N:=(m8.top false).cell a6;rw[b6.out,d3.out] at N;exact N⟩
     have o7:=x5s (b:=false) (j:=(j+1)) l5 m8 Q.sc Q.k8.cell a9.out Q.hb.size HV.out.n1 (by have:=HV.out.n2;omega);rw[b6.out] at o7;have k6:IntKind.i64.wrap ((j:Int)+1)=(j:Int)+1:=by rw[IntKind.wrap_i64];have:=HM.out;omega
     rw[show (((j+1:Nat)):Int)=(j:Int)+1 by omega] at o7;have B9:=qh o7;clear o7;have i2:=qh Q;clear Q o;have u8:=qh m8;clear m8 T;have y9:=qh C9;clear C9 J;have v8:=qh u4;clear u4 a7 h5;refine z0g (fun W=>W.cell? ⟨c8,0,none⟩=some (.pointer (some ⟨B,0,none⟩))/\W.cell? ⟨jb,0,none⟩=some (.int .i64 (j:Int))/\W.cell? ⟨g,j,none⟩=some (.slice (some ⟨rv,0,none⟩) D.n D.n)) 11 (by kernel_rfl) ?_;rw[<- t9];clear t9;refine z0b.tl 0 e5 (v:=?vtAa0) ?xk ?Xi
     case xk=>rintro U ⟨l,u,z⟩;go_simp;try with_reducible rfl
     refine z0b.tl 1 e5 (v:=?Zt) ?xq ?Xq
     case xq=>rintro U ⟨l,u,z⟩;go_simp;try with_reducible rfl
     refine z0b.tl 2 e5 (v:=?vtAa2) ?yg ?zn
     case yg=>rintro U ⟨l,u,z⟩;go_simp;try with_reducible rfl
     refine z0b.tl 3 e5 (v:=?Zo) ?yq ?zr
     case yq=>rintro U ⟨l,u,z⟩;go_simp;try with_reducible rfl
     refine z0b.tl 4 e5 (v:=?vtAa4) ?yj ?zp
     case yj=>rintro U ⟨l,u,z⟩;go_simp;try with_reducible rfl
     try simp only[Act.put,tryL]
     refine z0b.tl 6 e5 (v:=?Zr) ?xj ?zx
     case xj=>rintro U ⟨l,u,z⟩;go_simp;try with_reducible rfl
     refine z0b.tl 7 e5 (v:=?Zl) ?xh ?zh
     case xh=>rintro U ⟨l,u,z⟩;go_simp;try with_reducible rfl
     refine z0b.tl 8 e5 (v:=?vtBa8) ?yn ?zj
     case yn=>rintro U ⟨l,u,z⟩;go_simp;try with_reducible rfl
     refine z0b.tl 9 e5 (v:=?vtBa9) ?xi ?Xo
     case xi=>rintro U ⟨l,u,z⟩;go_simp;try with_reducible rfl
     refine z0b.tl 10 e5 (v:=?Za) ?xa ?ze
     case xa=>rintro U ⟨l,u,z⟩;go_simp;try with_reducible rfl
     try simp only[Act.put,tryL]
     refine z0b.on 5 fun K X=>?_;go_simp;refine B9.out.mono ?_;rintro r g8 ⟨Ra,v4,rfl,a1,f2,k,hf⟩;have H:∀ q cs t fr,l5.heap[q]?=some (.cells cs t fr)->t≠124->¬ (q=gg false):=fun q cs t fr N h2 e=>u8.out.gne_of N h2 false e.symm;have c:=i2.out.kept hf (H B _ _ _ i2.out.sc (by decide)) (H c8 _ _ _ i2.out.k8 (by decide)) (H xb _ _ _ i2.out.kx (by decide)) (H yb _ _ _ i2.out.ky (by decide)) (fun q e=>by rw[e];exact u8.out.low false);have G:=y9.out.kept hf (H ib _ _ _ y9.out (by decide));have F:=v8.out.kept hf (H jb _ _ _ v8.out (by decide));have a2:¬ (false=false/\j=(j+1)):=fun e=>by have:=e.2;omega
     have L:Ra false j=some rv:=(f2 false j a2).trans d3.out;have a4:(updV s1.1 false (j+1) ((s1.1 false (j+1)).getD z3j)) false j=some v:=(y8v a2).trans o4.out;have I:=k.row false j rv v a6 L a4;have d:=k.row false (j+1) v4 ((s1.1 false (j+1)).getD z3j) a9.out a1 (z8u _ _ _ _);have b4:B≠v4:=(z0e d.1 (show g8.heap[B]?=_ from c.sc) (by decide)).symm;have b5:rv≠B:=z0e I.1 (show g8.heap[B]?=_ from c.sc) (by decide);have e8:rv≠v4:=fun e=>a2 (k.sep false j false (j+1) rv a6 a9.out L (by rw[e];exact a1));have c7:∀ q,smS (((s1.1 false (j+1)).getD z3j) q):=k.sm false (j+1) _ (z8u _ _ _ _);have a8:∀ q,smS (v q):=k.sm false j v a4;have c6:ib≠B:=Bx.ne_scl G c.sc;have d1:jb≠B:=Bx.ne_scl F c.sc;have hP:PWt w B xb yb ib jb (.slice ax na cx) (.slice ay nb cy) i j g8:=⟨c.hb,c.kx,c.ky,G,F,c.nx,c.ny,c6,d1⟩;have lx:=(z0e d.1 c.kx (by decide)).symm;have ly:=(z0e d.1 c.ky (by decide)).symm;have li:=(z0e d.1 G (by decide)).symm;have lj:=(z0e d.1 F (by decide)).symm;have b8:=y4w (nf:=85) (cap:=#[.pointer (some ⟨yb,0,none⟩),.pointer (some ⟨jb,0,none⟩)]) (sel:=sel2 (y j)) (P:=PWt w B xb yb ib jb (.slice ax na cx) (.slice ay nb cy) i j) w g8 HV.out i9.out c.hb l6.out c.sc d.1 I.1 c.lc d.2 b4 e8 b5 c7 a8 j0.out.aw hP
      (fun wa wb hp hf=>hp.fr hf c.lc d.2 lx ly li lj) (tst2 HY.out j5)
     have x5:g8.cell? ⟨c8,0,none⟩=some (.pointer (some ⟨B,0,none⟩))/\g8.cell? ⟨jb,0,none⟩=some (.int .i64 (j:Int))/\g8.cell? ⟨g,j,none⟩=some (.slice (some ⟨rv,0,none⟩) D.n D.n) :=
      ⟨c.k8.cell,F.cell,by have N:=(k.top false).cell a6;rw[b6.out,L] at N;exact N⟩
     have e7:∀ b,gg b≠B:=fun b=>k.gne_of (show g8.heap[B]?=_ from c.sc) (by decide) b;have f1:∀ b j r,j<m->Ra b j=some r->r≠B:=fun b j r N h2=>k.rne_of (show g8.heap[B]?=_ from c.sc) (by decide) N h2;have E7:=a8;have e4:∀ (Z:World) (lz:Z.rowIs v4 9 D.n (fun q=>.string ((z6z D (sel2 (y j)) v D.n ((s1.1 false (j+1)).getD z3j,s1.2)).1 q))),Fr (fun q=>q=B\/q=v4) g8 Z->Scl Z B D (.slice a D.n cap) (.slice none 0 0) (z6z D (sel2 (y j)) v D.n ((s1.1 false (j+1)).getD z3j,s1.2)).2 ->
       VR Z w.heap.size gg m D.n Ra (z3y D false (j+1) (sel2 (y j)) v s1).1/\WE w Z B c8 xb yb D (.slice a D.n cap) (.slice ax na cx) (.slice ay nb cy) (z3y D false (j+1) (sel2 (y j)) v s1).2/\Bx Z ib 3 (.int .i64 (i:Int))/\Bx Z jb 3 (.int .i64 (j:Int)):=fun Z lz fz sz=>by
      have N:=k.step2 a9.out a1 fz e7 f1 lz (z8g a8 D.n c7);rw[z9s] at N;exact⟨N,c.stepped fz sz d.1 d.2,G.kept fz (fun e=>e.elim c6 li),F.kept fz (fun e=>e.elim d1 lj)⟩
     have x7:=qh b8;clear b8;have D9:=qh e4;clear e4;have d3:=qh L;clear L;have a3:(z3y D false (j+1) (sel2 (y j)) v s1).1 false j=some v:=(y1n a2).trans o4.out;clear E7 H c G F a4 I d b4 b5 e8 c7 a8 c6 d1 hP lx ly li lj e7 f1 hf k f2 a1 a2;have A8:=x5;refine X.out _ _ (.inr x5) ?_;clear X K
     try simp only[Act.put,tryL]
     refine z0b.on 11 fun K X=>?_;go_simp;refine x7.out.mono ?_;rintro r wt ⟨rfl,e9,b0,c9⟩;obtain⟨k,c,G,F⟩:=D9.out wt e9 c9 b0;refine X.out _ _ (.inl rfl) (z0b.done (by kernel_rfl) ?_ _);clear X K A8 k6 e9 c9 b0 x7 D9 B9 e5 x5 u8 i2 y9 v8;obtain⟨s2,b0⟩:=exq (z3y D false (j+1) (sel2 (y j)) v s1);rw[<- b0] at k c a3;have z6:=qh b0;clear b0;have z2:=qh a3;clear a3;have T:=qh k;clear k;have o:=qh c;clear c;have J:=qh G;clear G;have a7:=qh F;clear F;by_cases d9:i<na
     ·have j3:(i:Int)<(na:Int):=by omega
      have ci:=J.out.cell;have cj:=a7.out.cell;have b2:=o.out.kx.cell;have b1:=o.out.ky.cell
      go_wp2_with fail
      clear ci cj b2 b1;have a9:=qh (show j<m by have:=HM.out;omega);have h6:Fr (fun _=>False) wt wt.drew:=(Fr.refl _ _).drew;obtain⟨l8,s6⟩:=exq (wt.drew);rw[<- s6] at h6;have i3:=o.out.kept h6 (fun e=>e) (fun e=>e) (fun e=>e) (fun e=>e) (fun _ e=>e.elim);have n0:=T.out.kept h6 (fun _ e=>e) (fun _ _ _ _ _ e=>e);have D8:=J.out.kept h6 (fun e=>e);have x1:=a7.out.kept h6 (fun e=>e);have g3:l8.cell? ⟨c8,0,none⟩=some (.pointer (some ⟨B,0,none⟩))/\l8.cell? ⟨jb,0,none⟩=some (.int .i64 (j:Int))/\l8.cell? ⟨g,j,none⟩=some (.slice (some ⟨rv,0,none⟩) D.n D.n) :=
       ⟨i3.k8.cell,x1.cell,by have N:=(n0.top false).cell a6;rw[b6.out,d3.out] at N;exact N⟩
      have y3:=x5s (b:=true) (j:=j) l8 n0 i3.sc i3.k8.cell a9.out i3.hb.size HV.out.n1 (by have:=HV.out.n2;omega);rw[p6.out] at y3;have k6:=HV.out;have C7:=qh y3;clear y3;have h0:=qh i3;clear i3 o;have x8:=qh n0;clear n0 T;have y6:=qh D8;clear D8 J;have s8:=qh x1;clear x1 a7 h6;refine z0g (fun W=>W.cell? ⟨c8,0,none⟩=some (.pointer (some ⟨B,0,none⟩))/\W.cell? ⟨jb,0,none⟩=some (.int .i64 (j:Int))/\W.cell? ⟨g,j,none⟩=some (.slice (some ⟨rv,0,none⟩) D.n D.n)) 10 (by kernel_rfl) ?_;rw[<- s6];clear s6;refine z0b.tl 0 g3 (v:=?vtAb0) ?yp ?Xj
      case yp=>rintro U ⟨l,u,z⟩;go_simp;try with_reducible rfl
      refine z0b.tl 1 g3 (v:=?vtAb1) ?xx ?zi
      case xx=>rintro U ⟨l,u,z⟩;go_simp;try with_reducible rfl
      refine z0b.tl 2 g3 (v:=?Zn) ?yr ?Xn
      case yr=>rintro U ⟨l,u,z⟩;go_simp;try with_reducible rfl
      refine z0b.tl 3 g3 (v:=?vtAb3) ?yl ?zf
      case yl=>rintro U ⟨l,u,z⟩;go_simp;try with_reducible rfl
      try simp only[Act.put,tryL]
      refine z0b.tl 5 g3 (v:=?Zp) ?xt ?zy
      case xt=>rintro U ⟨l,u,z⟩;go_simp;try with_reducible rfl
      refine z0b.tl 6 g3 (v:=?vtBb6) ?yc ?zw
      case yc=>rintro U ⟨l,u,z⟩;go_simp;try with_reducible rfl
      refine z0b.tl 7 g3 (v:=?vtBb7) ?ya ?Xp
      case ya=>rintro U ⟨l,u,z⟩;go_simp;try with_reducible rfl
      refine z0b.tl 8 g3 (v:=?vtBb8) ?yf ?Xm
      case yf=>rintro U ⟨l,u,z⟩;go_simp;try with_reducible rfl
      refine z0b.tl 9 g3 (v:=?Zy) ?xd ?Xd
      case xd=>rintro U ⟨l,u,z⟩;go_simp;try with_reducible rfl
      try simp only[Act.put,tryL]
      refine z0b.on 4 fun K X=>?_;go_simp;refine C7.out.mono ?_;rintro r f9 ⟨Rb,z3,rfl,a1,f2,k,hf⟩;have H:∀ q cs t fr,l8.heap[q]?=some (.cells cs t fr)->t≠124->¬ (q=gg true):=fun q cs t fr N h2 e=>x8.out.gne_of N h2 true e.symm;have c:=h0.out.kept hf (H B _ _ _ h0.out.sc (by decide)) (H c8 _ _ _ h0.out.k8 (by decide)) (H xb _ _ _ h0.out.kx (by decide)) (H yb _ _ _ h0.out.ky (by decide)) (fun q e=>by rw[e];exact x8.out.low true);have G:=y6.out.kept hf (H ib _ _ _ y6.out (by decide));have F:=s8.out.kept hf (H jb _ _ _ s8.out (by decide));have a2:¬ (false=true/\j=j):=fun e=>by cases e.1
      have L:Rb false j=some rv:=(f2 false j a2).trans d3.out;have a4:(updV s2.1 true j ((s2.1 true j).getD z3j)) false j=some v:=(y8v a2).trans z2.out;have I:=k.row false j rv v a6 L a4;have d:=k.row true j z3 ((s2.1 true j).getD z3j) a9.out a1 (z8u _ _ _ _);have b4:B≠z3:=(z0e d.1 (show f9.heap[B]?=_ from c.sc) (by decide)).symm;have b5:rv≠B:=z0e I.1 (show f9.heap[B]?=_ from c.sc) (by decide);have e8:rv≠z3:=fun e=>a2 (k.sep false j true j rv a6 a9.out L (by rw[e];exact a1));have c7:∀ q,smS (((s2.1 true j).getD z3j) q):=k.sm true j _ (z8u _ _ _ _);have a8:∀ q,smS (v q):=k.sm false j v a4;have c6:ib≠B:=Bx.ne_scl G c.sc;have d1:jb≠B:=Bx.ne_scl F c.sc;have hP:PWt w B xb yb ib jb (.slice ax na cx) (.slice ay nb cy) i j f9:=⟨c.hb,c.kx,c.ky,G,F,c.nx,c.ny,c6,d1⟩;have lx:=(z0e d.1 c.kx (by decide)).symm;have ly:=(z0e d.1 c.ky (by decide)).symm;have li:=(z0e d.1 G (by decide)).symm;have lj:=(z0e d.1 F (by decide)).symm;have b8:=y4w (nf:=86) (cap:=#[.pointer (some ⟨xb,0,none⟩),.pointer (some ⟨ib,0,none⟩)]) (sel:=sel3 (x i)) (P:=PWt w B xb yb ib jb (.slice ax na cx) (.slice ay nb cy) i j) w f9 HV.out i9.out c.hb l6.out c.sc d.1 I.1 c.lc d.2 b4 e8 b5 c7 a8 j0.out.aw hP
       (fun wa wb hp hf=>hp.fr hf c.lc d.2 lx ly li lj) (tst3 HX.out d9)
      have r7:f9.cell? ⟨c8,0,none⟩=some (.pointer (some ⟨B,0,none⟩))/\f9.cell? ⟨jb,0,none⟩=some (.int .i64 (j:Int))/\f9.cell? ⟨g,j,none⟩=some (.slice (some ⟨rv,0,none⟩) D.n D.n) :=
       ⟨c.k8.cell,F.cell,by have N:=(k.top false).cell a6;rw[b6.out,L] at N;exact N⟩
      have e7:∀ b,gg b≠B:=fun b=>k.gne_of (show f9.heap[B]?=_ from c.sc) (by decide) b;have f1:∀ b j r,j<m->Rb b j=some r->r≠B:=fun b j r N h2=>k.rne_of (show f9.heap[B]?=_ from c.sc) (by decide) N h2;have F2:=a8;have e4:∀ (Z:World) (lz:Z.rowIs z3 9 D.n (fun q=>.string ((z6z D (sel3 (x i)) v D.n ((s2.1 true j).getD z3j,s2.2)).1 q))),Fr (fun q=>q=B\/q=z3) f9 Z->Scl Z B D (.slice a D.n cap) (.slice none 0 0) (z6z D (sel3 (x i)) v D.n ((s2.1 true j).getD z3j,s2.2)).2 ->
        VR Z w.heap.size gg m D.n Rb (z3y D true j (sel3 (x i)) v s2).1/\WE w Z B c8 xb yb D (.slice a D.n cap) (.slice ax na cx) (.slice ay nb cy) (z3y D true j (sel3 (x i)) v s2).2/\Bx Z ib 3 (.int .i64 (i:Int))/\Bx Z jb 3 (.int .i64 (j:Int)):=fun Z lz fz sz=>by
       have N:=k.step2 a9.out a1 fz e7 f1 lz (z8g a8 D.n c7);rw[z9s] at N;exact⟨N,c.stepped fz sz d.1 d.2,G.kept fz (fun e=>e.elim c6 li),F.kept fz (fun e=>e.elim d1 lj)⟩
      have s5:=qh b8;clear b8;have B5:=qh e4;clear e4;have d3:=qh L;clear L;have a3:(z3y D true j (sel3 (x i)) v s2).1 false j=some v:=(y1n a2).trans z2.out;clear F2 H c G F a4 I d b4 b5 e8 c7 a8 c6 d1 hP lx ly li lj e7 f1 hf k f2 a1 a2;have A9:=r7;refine X.out _ _ (.inr r7) ?_;clear X K
      try simp only[Act.put,tryL]
      refine z0b.on 10 fun K X=>?_;go_simp;refine s5.out.mono ?_;rintro r wu ⟨rfl,e9,b0,c9⟩;obtain⟨k,c,G,F⟩:=B5.out wu e9 c9 b0;refine X.out _ _ (.inl rfl) (z0b.done (by kernel_rfl) ?_ _);clear X K A9 k6 e9 c9 b0 s5 B5 C7 g3 r7 x8 h0 y6 s8;obtain⟨s3,E6⟩:=exq (z3y D true j (sel3 (x i)) v s2);rw[<- E6] at k c a3;have K5:=qh E6;clear E6;have B4:=qh a3;clear a3;have T:=qh k;clear k;have o:=qh c;clear c;have J:=qh G;clear G;have a7:=qh F;clear F;have ci:=J.out.cell;have cj:=a7.out.cell;have b2:=o.out.kx.cell;have b1:=o.out.ky.cell
      go_wp2_with fail
      clear ci cj b2 b1;have a9:=qh (show (j+1)<m by have:=HM.out;omega);have i6:Fr (fun _=>False) wu wu.drew:=(Fr.refl _ _).drew;obtain⟨k2,u1⟩:=exq (wu.drew);rw[<- u1] at i6;have i5:=o.out.kept i6 (fun e=>e) (fun e=>e) (fun e=>e) (fun e=>e) (fun _ e=>e.elim);have o3:=T.out.kept i6 (fun _ e=>e) (fun _ _ _ _ _ e=>e);have D6:=J.out.kept i6 (fun e=>e);have x6:=a7.out.kept i6 (fun e=>e);have f4:k2.cell? ⟨c8,0,none⟩=some (.pointer (some ⟨B,0,none⟩))/\k2.cell? ⟨jb,0,none⟩=some (.int .i64 (j:Int))/\k2.cell? ⟨g,j,none⟩=some (.slice (some ⟨rv,0,none⟩) D.n D.n) :=
       ⟨i5.k8.cell,x6.cell,by have N:=(o3.top false).cell a6;rw[b6.out,d3.out] at N;exact N⟩
      have n9:=x5s (b:=true) (j:=(j+1)) k2 o3 i5.sc i5.k8.cell a9.out i5.hb.size HV.out.n1 (by have:=HV.out.n2;omega);rw[p6.out] at n9;have k6:IntKind.i64.wrap ((j:Int)+1)=(j:Int)+1:=by rw[IntKind.wrap_i64];have:=HM.out;omega
      rw[show (((j+1:Nat)):Int)=(j:Int)+1 by omega] at n9;have C1:=qh n9;clear n9;have h3:=qh i5;clear i5 o;have y7:=qh o3;clear o3 T;have v2:=qh D6;clear D6 J;have p9:=qh x6;clear x6 a7 i6;refine z0g (fun W=>W.cell? ⟨c8,0,none⟩=some (.pointer (some ⟨B,0,none⟩))/\W.cell? ⟨jb,0,none⟩=some (.int .i64 (j:Int))/\W.cell? ⟨g,j,none⟩=some (.slice (some ⟨rv,0,none⟩) D.n D.n)) 11 (by kernel_rfl) ?_;rw[<- u1];clear u1;refine z0b.tl 0 f4 (v:=?Zw) ?yd ?Xl
      case yd=>rintro U ⟨l,u,z⟩;go_simp;try with_reducible rfl
      refine z0b.tl 1 f4 (v:=?Zz) ?xg ?zl
      case xg=>rintro U ⟨l,u,z⟩;go_simp;try with_reducible rfl
      refine z0b.tl 2 f4 (v:=?Zv) ?xn ?zt
      case xn=>rintro U ⟨l,u,z⟩;go_simp;try with_reducible rfl
      refine z0b.tl 3 f4 (v:=?Zm) ?yi ?zk
      case yi=>rintro U ⟨l,u,z⟩;go_simp;try with_reducible rfl
      refine z0b.tl 4 f4 (v:=?vtAc4) ?xm ?Xc
      case xm=>rintro U ⟨l,u,z⟩;go_simp;try with_reducible rfl
      try simp only[Act.put,tryL]
      refine z0b.tl 6 f4 (v:=?vtBc6) ?xs ?zv
      case xs=>rintro U ⟨l,u,z⟩;go_simp;try with_reducible rfl
      refine z0b.tl 7 f4 (v:=?vtBc7) ?xo ?Xk
      case xo=>rintro U ⟨l,u,z⟩;go_simp;try with_reducible rfl
      refine z0b.tl 8 f4 (v:=?vtBc8) ?xf ?zz
      case xf=>rintro U ⟨l,u,z⟩;go_simp;try with_reducible rfl
      refine z0b.tl 9 f4 (v:=?Zq) ?xw ?zu
      case xw=>rintro U ⟨l,u,z⟩;go_simp;try with_reducible rfl
      refine z0b.tl 10 f4 (v:=?Zd) ?xc ?ys
      case xc=>rintro U ⟨l,u,z⟩;go_simp;try with_reducible rfl
      try simp only[Act.put,tryL]
      refine z0b.on 5 fun K X=>?_;go_simp;refine C1.out.mono ?_;rintro r g4 ⟨Rc,z1,rfl,a1,f2,k,hf⟩;have H:∀ q cs t fr,k2.heap[q]?=some (.cells cs t fr)->t≠124->¬ (q=gg true):=fun q cs t fr N h2 e=>y7.out.gne_of N h2 true e.symm;have c:=h3.out.kept hf (H B _ _ _ h3.out.sc (by decide)) (H c8 _ _ _ h3.out.k8 (by decide)) (H xb _ _ _ h3.out.kx (by decide)) (H yb _ _ _ h3.out.ky (by decide)) (fun q e=>by rw[e];exact y7.out.low true);have G:=v2.out.kept hf (H ib _ _ _ v2.out (by decide));have F:=p9.out.kept hf (H jb _ _ _ p9.out (by decide));have a2:¬ (false=true/\j=(j+1)):=fun e=>by cases e.1
      have L:Rc false j=some rv:=(f2 false j a2).trans d3.out;have a4:(updV s3.1 true (j+1) ((s3.1 true (j+1)).getD z3j)) false j=some v:=(y8v a2).trans B4.out;have I:=k.row false j rv v a6 L a4;have d:=k.row true (j+1) z1 ((s3.1 true (j+1)).getD z3j) a9.out a1 (z8u _ _ _ _);have b4:B≠z1:=(z0e d.1 (show g4.heap[B]?=_ from c.sc) (by decide)).symm;have b5:rv≠B:=z0e I.1 (show g4.heap[B]?=_ from c.sc) (by decide);have e8:rv≠z1:=fun e=>a2 (k.sep false j true (j+1) rv a6 a9.out L (by rw[e];exact a1));have c7:∀ q,smS (((s3.1 true (j+1)).getD z3j) q):=k.sm true (j+1) _ (z8u _ _ _ _);have a8:∀ q,smS (v q):=k.sm false j v a4;have c6:ib≠B:=Bx.ne_scl G c.sc;have d1:jb≠B:=Bx.ne_scl F c.sc;have hP:PWt w B xb yb ib jb (.slice ax na cx) (.slice ay nb cy) i j g4:=⟨c.hb,c.kx,c.ky,G,F,c.nx,c.ny,c6,d1⟩;have lx:=(z0e d.1 c.kx (by decide)).symm;have ly:=(z0e d.1 c.ky (by decide)).symm;have li:=(z0e d.1 G (by decide)).symm;have lj:=(z0e d.1 F (by decide)).symm;have b8:=y4w (nf:=87) (cap:=#[.pointer (some ⟨xb,0,none⟩),.pointer (some ⟨ib,0,none⟩),.pointer (some ⟨yb,0,none⟩),.pointer (some ⟨jb,0,none⟩)]) (sel:=sel4 (x i) (y j)) (P:=PWt w B xb yb ib jb (.slice ax na cx) (.slice ay nb cy) i j) w g4 HV.out i9.out c.hb l6.out c.sc d.1 I.1 c.lc d.2 b4 e8 b5 c7 a8 j0.out.aw hP
       (fun wa wb hp hf=>hp.fr hf c.lc d.2 lx ly li lj) (tst4 HX.out d9 HY.out j5)
      have t7:g4.cell? ⟨c8,0,none⟩=some (.pointer (some ⟨B,0,none⟩))/\g4.cell? ⟨jb,0,none⟩=some (.int .i64 (j:Int))/\g4.cell? ⟨g,j,none⟩=some (.slice (some ⟨rv,0,none⟩) D.n D.n) :=
       ⟨c.k8.cell,F.cell,by have N:=(k.top false).cell a6;rw[b6.out,L] at N;exact N⟩
      have e7:∀ b,gg b≠B:=fun b=>k.gne_of (show g4.heap[B]?=_ from c.sc) (by decide) b;have f1:∀ b j r,j<m->Rc b j=some r->r≠B:=fun b j r N h2=>k.rne_of (show g4.heap[B]?=_ from c.sc) (by decide) N h2;have G2:=a8;have e4:∀ (Z:World) (lz:Z.rowIs z1 9 D.n (fun q=>.string ((z6z D (sel4 (x i) (y j)) v D.n ((s3.1 true (j+1)).getD z3j,s3.2)).1 q))),Fr (fun q=>q=B\/q=z1) g4 Z->Scl Z B D (.slice a D.n cap) (.slice none 0 0) (z6z D (sel4 (x i) (y j)) v D.n ((s3.1 true (j+1)).getD z3j,s3.2)).2 ->
        VR Z w.heap.size gg m D.n Rc (z3y D true (j+1) (sel4 (x i) (y j)) v s3).1/\WE w Z B c8 xb yb D (.slice a D.n cap) (.slice ax na cx) (.slice ay nb cy) (z3y D true (j+1) (sel4 (x i) (y j)) v s3).2/\Bx Z ib 3 (.int .i64 (i:Int))/\Bx Z jb 3 (.int .i64 (j:Int)):=fun Z lz fz sz=>by
       have N:=k.step2 a9.out a1 fz e7 f1 lz (z8g a8 D.n c7);rw[z9s] at N;exact⟨N,c.stepped fz sz d.1 d.2,G.kept fz (fun e=>e.elim c6 li),F.kept fz (fun e=>e.elim d1 lj)⟩
      have r9:=qh b8;clear b8;have C4:=qh e4;clear e4;have d3:=qh L;clear L;have a3:(z3y D true (j+1) (sel4 (x i) (y j)) v s3).1 false j=some v:=(y1n a2).trans B4.out;clear G2 H c G F a4 I d b4 b5 e8 c7 a8 c6 d1 hP lx ly li lj e7 f1 hf k f2 a1 a2;have A2:=t7;refine X.out _ _ (.inr t7) ?_;clear X K
      try simp only[Act.put,tryL]
      refine z0b.on 11 fun K X=>?_;go_simp;refine r9.out.mono ?_;rintro r wv ⟨rfl,e9,b0,c9⟩;obtain⟨k,c,G,F⟩:=C4.out wv e9 c9 b0;refine X.out _ _ (.inl rfl) (z0b.done (by kernel_rfl) ?_ _);clear X K A2 k6 e9 c9 b0 r9 C4 C1 f4 t7 y7 h3 v2 p9;obtain⟨s4,F6⟩:=exq (z3y D true (j+1) (sel4 (x i) (y j)) v s3);rw[<- F6] at k c a3;have K3:=qh F6;clear F6;have L2:=qh a3;clear a3;have T:=qh k;clear k;have o:=qh c;clear c;have J:=qh G;clear G;have a7:=qh F;clear F;have ci:=J.out.cell;have cj:=a7.out.cell;have b2:=o.out.kx.cell;have b1:=o.out.ky.cell
      go_wp2_with fail
      clear ci cj b2 b1;go_roundw
      case rel=>exact⟨j+1,_,s4,by have:=g7.out;omega,by go_num,by rw[h7.out];unfold cell1 cell2 cell3;rw[if_pos j5,if_pos d9,if_pos ⟨d9,j5⟩,K3.out,K5.out,z6.out],T.out,o.out,J.out⟩
      simp[intOf];have:=g7.out;omega
     have j3:¬ ((i:Int)<(na:Int)):=by omega
     have ci:=J.out.cell;have cj:=a7.out.cell;have b2:=o.out.kx.cell;have b1:=o.out.ky.cell
     go_wp2_with fail
     clear ci cj b2 b1;go_roundw
     case rel=>exact⟨j+1,_,s2,by have:=g7.out;omega,by go_num,by rw[h7.out];unfold cell1 cell2 cell3;rw[if_pos j5,if_neg d9,if_neg (fun h=>d9 h.1),z6.out],T.out,o.out,J.out⟩
     simp[intOf];have:=g7.out;omega
    have I4:¬ ((j:Int)<(nb:Int)):=by omega
    by_cases d9:i<na
    ·have j3:(i:Int)<(na:Int):=by omega
     have ci:=J.out.cell;have cj:=a7.out.cell;have b2:=o.out.kx.cell;have b1:=o.out.ky.cell
     go_wp2_with fail
     clear ci cj b2 b1;have a9:=qh (show j<m by have:=HM.out;omega);have h9:Fr (fun _=>False) ws ws.drew:=(Fr.refl _ _).drew;obtain⟨m7,u6⟩:=exq (ws.drew);rw[<- u6] at h9;have E:=o.out.kept h9 (fun e=>e) (fun e=>e) (fun e=>e) (fun e=>e) (fun _ e=>e.elim);have a5:=T.out.kept h9 (fun _ e=>e) (fun _ _ _ _ _ e=>e);have h4:=J.out.kept h9 (fun e=>e);have e3:=a7.out.kept h9 (fun e=>e);have g5:m7.cell? ⟨c8,0,none⟩=some (.pointer (some ⟨B,0,none⟩))/\m7.cell? ⟨jb,0,none⟩=some (.int .i64 (j:Int))/\m7.cell? ⟨g,j,none⟩=some (.slice (some ⟨rv,0,none⟩) D.n D.n) :=
      ⟨E.k8.cell,e3.cell,by have N:=(a5.top false).cell a6;rw[b6.out,d3.out] at N;exact N⟩
     have x9:=x5s (b:=true) (j:=j) m7 a5 E.sc E.k8.cell a9.out E.hb.size HV.out.n1 (by have:=HV.out.n2;omega);rw[p6.out] at x9;have k6:=HV.out;have C6:=qh x9;clear x9;have g9:=qh E;clear E o;have v3:=qh a5;clear a5 T;have u5:=qh h4;clear h4 J;have u2:=qh e3;clear e3 a7 h9;refine z0g (fun W=>W.cell? ⟨c8,0,none⟩=some (.pointer (some ⟨B,0,none⟩))/\W.cell? ⟨jb,0,none⟩=some (.int .i64 (j:Int))/\W.cell? ⟨g,j,none⟩=some (.slice (some ⟨rv,0,none⟩) D.n D.n)) 10 (by kernel_rfl) ?_;rw[<- u6];clear u6;refine z0b.tl 0 g5 (v:=?vtAd0) ?xu ?zs
     case xu=>rintro U ⟨l,u,z⟩;go_simp;try with_reducible rfl
     refine z0b.tl 1 g5 (v:=?Zs) ?xr ?zq
     case xr=>rintro U ⟨l,u,z⟩;go_simp;try with_reducible rfl
     refine z0b.tl 2 g5 (v:=?vtAd2) ?xl ?zo
     case xl=>rintro U ⟨l,u,z⟩;go_simp;try with_reducible rfl
     refine z0b.tl 3 g5 (v:=?Zx) ?xz ?Xf
     case xz=>rintro U ⟨l,u,z⟩;go_simp;try with_reducible rfl
     try simp only[Act.put,tryL]
     refine z0b.tl 5 g5 (v:=?vtBd5) ?yk ?Xe
     case yk=>rintro U ⟨l,u,z⟩;go_simp;try with_reducible rfl
     refine z0b.tl 6 g5 (v:=?vtBd6) ?yo ?Xa
     case yo=>rintro U ⟨l,u,z⟩;go_simp;try with_reducible rfl
     refine z0b.tl 7 g5 (v:=?vtBd7) ?xp ?Xb
     case xp=>rintro U ⟨l,u,z⟩;go_simp;try with_reducible rfl
     refine z0b.tl 8 g5 (v:=?Zu) ?ym ?Xg
     case ym=>rintro U ⟨l,u,z⟩;go_simp;try with_reducible rfl
     refine z0b.tl 9 g5 (v:=?vtBd9) ?yh ?Xh
     case yh=>rintro U ⟨l,u,z⟩;go_simp;try with_reducible rfl
     try simp only[Act.put,tryL]
     refine z0b.on 4 fun K X=>?_;go_simp;refine C6.out.mono ?_;rintro r f8 ⟨Rd,p8,rfl,a1,f2,k,hf⟩;have H:∀ q cs t fr,m7.heap[q]?=some (.cells cs t fr)->t≠124->¬ (q=gg true):=fun q cs t fr N h2 e=>v3.out.gne_of N h2 true e.symm;have c:=g9.out.kept hf (H B _ _ _ g9.out.sc (by decide)) (H c8 _ _ _ g9.out.k8 (by decide)) (H xb _ _ _ g9.out.kx (by decide)) (H yb _ _ _ g9.out.ky (by decide)) (fun q e=>by rw[e];exact v3.out.low true);have G:=u5.out.kept hf (H ib _ _ _ u5.out (by decide));have F:=u2.out.kept hf (H jb _ _ _ u2.out (by decide));have a2:¬ (false=true/\j=j):=fun e=>by cases e.1
     have L:Rd false j=some rv:=(f2 false j a2).trans d3.out;have a4:(updV s1.1 true j ((s1.1 true j).getD z3j)) false j=some v:=(y8v a2).trans o4.out;have I:=k.row false j rv v a6 L a4;have d:=k.row true j p8 ((s1.1 true j).getD z3j) a9.out a1 (z8u _ _ _ _);have b4:B≠p8:=(z0e d.1 (show f8.heap[B]?=_ from c.sc) (by decide)).symm;have b5:rv≠B:=z0e I.1 (show f8.heap[B]?=_ from c.sc) (by decide);have e8:rv≠p8:=fun e=>a2 (k.sep false j true j rv a6 a9.out L (by rw[e];exact a1));have c7:∀ q,smS (((s1.1 true j).getD z3j) q):=k.sm true j _ (z8u _ _ _ _);have a8:∀ q,smS (v q):=k.sm false j v a4;have c6:ib≠B:=Bx.ne_scl G c.sc;have d1:jb≠B:=Bx.ne_scl F c.sc;have hP:PWt w B xb yb ib jb (.slice ax na cx) (.slice ay nb cy) i j f8:=⟨c.hb,c.kx,c.ky,G,F,c.nx,c.ny,c6,d1⟩;have lx:=(z0e d.1 c.kx (by decide)).symm;have ly:=(z0e d.1 c.ky (by decide)).symm;have li:=(z0e d.1 G (by decide)).symm;have lj:=(z0e d.1 F (by decide)).symm;have b8:=y4w (nf:=86) (cap:=#[.pointer (some ⟨xb,0,none⟩),.pointer (some ⟨ib,0,none⟩)]) (sel:=sel3 (x i)) (P:=PWt w B xb yb ib jb (.slice ax na cx) (.slice ay nb cy) i j) w f8 HV.out i9.out c.hb l6.out c.sc d.1 I.1 c.lc d.2 b4 e8 b5 c7 a8 j0.out.aw hP
      (fun wa wb hp hf=>hp.fr hf c.lc d.2 lx ly li lj) (tst3 HX.out d9)
     have t8:f8.cell? ⟨c8,0,none⟩=some (.pointer (some ⟨B,0,none⟩))/\f8.cell? ⟨jb,0,none⟩=some (.int .i64 (j:Int))/\f8.cell? ⟨g,j,none⟩=some (.slice (some ⟨rv,0,none⟩) D.n D.n) :=
      ⟨c.k8.cell,F.cell,by have N:=(k.top false).cell a6;rw[b6.out,L] at N;exact N⟩
     have e7:∀ b,gg b≠B:=fun b=>k.gne_of (show f8.heap[B]?=_ from c.sc) (by decide) b;have f1:∀ b j r,j<m->Rd b j=some r->r≠B:=fun b j r N h2=>k.rne_of (show f8.heap[B]?=_ from c.sc) (by decide) N h2;have G0:=a8;have e4:∀ (Z:World) (lz:Z.rowIs p8 9 D.n (fun q=>.string ((z6z D (sel3 (x i)) v D.n ((s1.1 true j).getD z3j,s1.2)).1 q))),Fr (fun q=>q=B\/q=p8) f8 Z->Scl Z B D (.slice a D.n cap) (.slice none 0 0) (z6z D (sel3 (x i)) v D.n ((s1.1 true j).getD z3j,s1.2)).2 ->
       VR Z w.heap.size gg m D.n Rd (z3y D true j (sel3 (x i)) v s1).1/\WE w Z B c8 xb yb D (.slice a D.n cap) (.slice ax na cx) (.slice ay nb cy) (z3y D true j (sel3 (x i)) v s1).2/\Bx Z ib 3 (.int .i64 (i:Int))/\Bx Z jb 3 (.int .i64 (j:Int)):=fun Z lz fz sz=>by
      have N:=k.step2 a9.out a1 fz e7 f1 lz (z8g a8 D.n c7);rw[z9s] at N;exact⟨N,c.stepped fz sz d.1 d.2,G.kept fz (fun e=>e.elim c6 li),F.kept fz (fun e=>e.elim d1 lj)⟩
     have q9:=qh b8;clear b8;have D3:=qh e4;clear e4;have d3:=qh L;clear L;have a3:(z3y D true j (sel3 (x i)) v s1).1 false j=some v:=(y1n a2).trans o4.out;clear G0 H c G F a4 I d b4 b5 e8 c7 a8 c6 d1 hP lx ly li lj e7 f1 hf k f2 a1 a2;have z8:=t8;refine X.out _ _ (.inr t8) ?_;clear X K
     try simp only[Act.put,tryL]
     refine z0b.on 10 fun K X=>?_;go_simp;refine q9.out.mono ?_;rintro r wt ⟨rfl,e9,b0,c9⟩;obtain⟨k,c,G,F⟩:=D3.out wt e9 c9 b0;refine X.out _ _ (.inl rfl) (z0b.done (by kernel_rfl) ?_ _);clear X K z8 k6 e9 c9 b0 q9 D3 C6 g5 t8 v3 g9 u5 u2;obtain⟨s2,b0⟩:=exq (z3y D true j (sel3 (x i)) v s1);rw[<- b0] at k c a3;have z6:=qh b0;clear b0;have z2:=qh a3;clear a3;have T:=qh k;clear k;have o:=qh c;clear c;have J:=qh G;clear G;have a7:=qh F;clear F;have ci:=J.out.cell;have cj:=a7.out.cell;have b2:=o.out.kx.cell;have b1:=o.out.ky.cell
     go_wp2_with fail
     clear ci cj b2 b1;go_roundw
     case rel=>exact⟨j+1,_,s2,by have:=g7.out;omega,by go_num,by rw[h7.out];unfold cell1 cell2 cell3;rw[if_neg j5,if_pos d9,if_neg (fun h=>j5 h.2),z6.out],T.out,o.out,J.out⟩
     simp[intOf];have:=g7.out;omega
    have j3:¬ ((i:Int)<(na:Int)):=by omega
    have ci:=J.out.cell;have cj:=a7.out.cell;have b2:=o.out.kx.cell;have b1:=o.out.ky.cell
    go_wp2_with fail
    clear ci cj b2 b1;go_roundw
    case rel=>exact⟨j+1,_,s1,by have:=g7.out;omega,by go_num,by rw[h7.out];unfold cell1 cell2 cell3;rw[if_neg j5,if_neg d9,if_neg (fun h=>d9 h.1)],T.out,o.out,J.out⟩
    simp[intOf];have:=g7.out;omega
  have J2:j=m:=by omega
  have L4:¬ ((j:Int)<(m:Int)):=by omega
  have F3:nb<m:=by have:=HM.out;omega
  have L7:(nb:Int)<(m:Int):=by omega
  have L0:(0:Int)<=(nb:Int):=by omega
  subst J2;have hk:na+1-i=(na-i)+1:=by omega
  have d0:=z7.out;rw[hk] at d0;unfold outC at d0;rw[if_neg (by simp),<- I2.out,<- HM.out,<- G5.out] at d0;clear hk z7;have ci:=J.out.cell;have b2:=o.out.kx.cell;have b1:=o.out.ky.cell;have hg:=(T.out.top false).cell F3;rw[b6.out] at hg;cases hf:s1.1 false nb with
  | none =>
   have hr:=(T.out.non false nb F3).2 hf;rw[hr] at hg;have k7:wr.cell? ⟨g,nb,none⟩=some (.slice none 0 0):=hg;have hq:=fun w=>v2m 124 9 underlying124 w none 0 0;rw[show (!(none:Option Addr).isNone)=false from rfl] at hq;rw[if_neg (fun h=>by rw[hf] at h;cases h.2)] at d0;have j9:=qh d0;clear d0 hf hr hg;by_cases k1:i=na
   ·have C5:na=i:=k1.symm;rw[C5] at j9;subst C5;obtain⟨d5,b7⟩:=exq (wr.heap.size);obtain⟨Z,d2⟩:=exq (wr.alloc (.cells #[.int .i64 ((na:Int)+1)] 3));have f7:Fr (fun _=>False) wr Z:=by rw[d2];exact Fr.alloc wr _
    have j1:Bx Z d5 3 (.int .i64 ((na+1:Nat):Int)):=by rw[d2,b7];exact heap_alloc_new wr _
    have j2:=qh (o.out.kept f7 (fun e=>e) (fun e=>e) (fun e=>e) (fun e=>e) (fun _ e=>e.elim));have f5:=(T.out.one true).kept f7;rw[p6.out] at f5;have k0:=qh f5;clear f5;have j7:=qh j1;clear j1 f7
    go_wp2_with fail
    rw[<- d2,<- b7];clear d2 b7;go_roundw
    case rel=>exact⟨na+1,s1.2,g2,d5,_,_,by omega,rfl,rfl,j7.out,k0.out,j2.out,by rw[show na+1-(na+1)=na-na by omega];exact j9.out⟩
    rw[y9s j7.out.cell,HI.out];omega
   have H0:¬ ((i:Int)=(na:Int)):=by omega
   obtain⟨d5,b7⟩:=exq (wr.heap.size);obtain⟨Z,d2⟩:=exq (wr.alloc (.cells #[.int .i64 ((i:Int)+1)] 3));have f7:Fr (fun _=>False) wr Z:=by rw[d2];exact Fr.alloc wr _
   have j1:Bx Z d5 3 (.int .i64 ((i+1:Nat):Int)):=by rw[d2,b7];exact heap_alloc_new wr _
   have j2:=qh (o.out.kept f7 (fun e=>e) (fun e=>e) (fun e=>e) (fun e=>e) (fun _ e=>e.elim));have f5:=(T.out.one true).kept f7;rw[p6.out] at f5;have k0:=qh f5;clear f5;have j7:=qh j1;clear j1 f7
   go_wp2_with fail
   rw[<- d2,<- b7];clear d2 b7;go_roundw
   case rel=>exact⟨i+1,s1.2,g2,d5,_,_,by omega,rfl,rfl,j7.out,k0.out,j2.out,by rw[show na+1-(i+1)=na-i by omega];exact j9.out⟩
   rw[y9s j7.out.cell,HI.out];omega
  | some v =>
   obtain⟨rv,k4,I,_⟩:=T.out.some_of F3 hf;rw[k4] at hg;have k7:wr.cell? ⟨g,nb,none⟩=some (.slice (some ⟨rv,0,none⟩) D.n D.n):=hg;have hq:=fun w=>v2m 124 9 underlying124 w (some ⟨rv,0,none⟩) D.n D.n;rw[show (!(some (⟨rv,0,none⟩:Addr)).isNone)=true from rfl] at hq;by_cases k1:i=na
   ·subst k1;rw[if_pos ⟨rfl,by rw[hf];rfl⟩,hf] at d0;have m9:=qh (show wgtC D i x nb y=finC D v s1.2 from d0.symm);clear d0;have b9:Fr (fun _=>False) wr wr.drew:=(Fr.refl _ _).drew;obtain⟨wd,e1⟩:=exq (wr.drew);rw[<- e1] at b9;have E:=o.out.kept b9 (fun e=>e) (fun e=>e) (fun e=>e) (fun e=>e) (fun _ e=>e.elim);have a5:=T.out.kept b9 (fun _ e=>e) (fun _ _ _ _ _ e=>e);have l0:=b9.row I (fun e=>e);have y0:wd.cell? ⟨g,nb,none⟩=some (.slice (some ⟨rv,0,none⟩) D.n D.n):=b9.cell k7 (fun e=>e);have Y:wd.cell? ⟨c8,0,none⟩=some (.pointer (some ⟨B,0,none⟩))/\wd.cell? ⟨yb,0,none⟩=some (.slice ay nb cy)/\wd.cell? ⟨g,nb,none⟩=some (.slice (some ⟨rv,0,none⟩) D.n D.n):=⟨E.k8.cell,E.ky.cell,y0⟩;have q8:=qh (y3f (v:=v) w wd HV.out i9.out E.hb l6.out E.sc l0 E.lc (z0e l0 (show wd.heap[B]?=_ from E.sc) (by decide)) (T.out.sm false nb v hf) j0.out.fin);have K1:=qh E.n8;have K6:=qh E.ny;have J7:=qh (show g≠B by rw[<- b6.out];exact a5.gne_of (show wd.heap[B]?=_ from E.sc) (by decide) false);have o:=qh E;clear E a5 l0 y0 b9;clear hf k4 I hg
    go_wp2_with fail
    refine z0g (fun W=>W.cell? ⟨c8,0,none⟩=some (.pointer (some ⟨B,0,none⟩))/\W.cell? ⟨yb,0,none⟩=some (.slice ay nb cy)/\W.cell? ⟨g,nb,none⟩=some (.slice (some ⟨rv,0,none⟩) D.n D.n)) 10 (by kernel_rfl) ?_;rw[<- e1];clear e1;refine z0b.tl 0 Y (v:=?vf0) ?Xu ?Yz
    case Xu=>rintro U ⟨l,u,z⟩;go_simp;try with_reducible rfl
    refine z0b.tl 1 Y (v:=?vf1) ?Ye ?Yt
    case Ye=>rintro U ⟨l,u,z⟩;go_simp;try with_reducible rfl
    refine z0b.tl 2 Y (v:=?vf2) ?Yp ?Zf
    case Yp=>rintro U ⟨l,u,z⟩;go_simp;try with_reducible rfl
    refine z0b.tl 3 Y (v:=?vf3) ?Yf ?Yv
    case Yf=>rintro U ⟨l,u,z⟩;go_simp;try with_reducible rfl
    refine z0b.tl 4 Y (v:=?vf4) ?Yi ?Yw
    case Yi=>rintro U ⟨l,u,z⟩;go_simp;try with_reducible rfl
    refine z0b.tl 5 Y (v:=?vf5) ?Xz ?Ze
    case Xz=>rintro U ⟨l,u,z⟩;go_simp;try with_reducible rfl
    try simp only[Act.put,tryL]
    refine z0b.on 6 fun K X=>?_;go_simp;refine q8.out.mono ?_;rintro r wf ⟨rfl,e0⟩;have g6:wf.cell? ⟨c8,0,none⟩=some (.pointer (some ⟨B,0,none⟩))/\wf.cell? ⟨yb,0,none⟩=some (.slice ay nb cy)/\wf.cell? ⟨g,nb,none⟩=some (.slice (some ⟨rv,0,none⟩) D.n D.n) :=
     ⟨e0.cell Y.1 K1.out,e0.cell Y.2.1 K6.out,e0.cell Y.2.2 J7.out⟩
    have q7:=qh e0;clear e0;refine X.out _ _ (.inr g6) ?_;clear X K
    try simp only[Act.put,tryL]
    refine z0b.tl 7 g6 (v:=?vh7) ?Yq ?Zk
    case Yq=>rintro U ⟨l,u,z⟩;go_simp;try with_reducible rfl
    refine z0b.tl 8 g6 (v:=?vh8) ?Xr ?Zj
    case Xr=>rintro U ⟨l,u,z⟩;go_simp;try with_reducible rfl
    refine z0b.tl 9 g6 (v:=?vh9) ?Ym ?Yu
    case Ym=>rintro U ⟨l,u,z⟩;go_simp;try with_reducible rfl
    try simp only[Act.put,tryL]
    refine z0b.on 10 fun K X=>?_;go_simp;refine X.out _ _ (.inl rfl) (z0b.done (by kernel_rfl) ?_ _);clear X K
    go_wp2_with fail
    go_ret2;exact⟨o.out.hb.trans (q7.out.below o.out.hb.size (fun q e=>by rw[e];exact o.out.lc)),.inl ⟨HV.out,E3.out,F1.out,by rw[m9.out];rfl⟩⟩
   have H0:¬ ((i:Int)=(na:Int)):=by omega
   rw[if_neg (fun h=>k1 h.1)] at d0;have j9:=qh d0;clear d0 hf k4 I hg;obtain⟨d5,b7⟩:=exq (wr.heap.size);obtain⟨Z,d2⟩:=exq (wr.alloc (.cells #[.int .i64 ((i:Int)+1)] 3));have f7:Fr (fun _=>False) wr Z:=by rw[d2];exact Fr.alloc wr _
   have j1:Bx Z d5 3 (.int .i64 ((i+1:Nat):Int)):=by rw[d2,b7];exact heap_alloc_new wr _
   have j2:=qh (o.out.kept f7 (fun e=>e) (fun e=>e) (fun e=>e) (fun e=>e) (fun _ e=>e.elim));have f5:=(T.out.one true).kept f7;rw[p6.out] at f5;have k0:=qh f5;clear f5;have j7:=qh j1;clear j1 f7
   go_wp2_with fail
   rw[<- d2,<- b7];clear d2 b7;go_roundw
   case rel=>exact⟨i+1,s1.2,g2,d5,_,_,by omega,rfl,rfl,j7.out,k0.out,j2.out,by rw[show na+1-(i+1)=na-i by omega];exact j9.out⟩
   rw[y9s j7.out.cell,HI.out];omega
 have m9:=qh (show wgtC D na x nb y=finC D z3j e by
  rw[<- z7.out];by_cases d9:i=na+1
  ·rw[show na+1-i=0 by omega];rfl
  rw[show na+1-i=(na-i)+1 by omega];unfold outC;rw[if_pos (fun h=>k1 ⟨by omega,h⟩)])
 have b9:Fr (fun _=>False) wr wr.drew:=(Fr.refl _ _).drew;obtain⟨wd,e1⟩:=exq (wr.drew);rw[<- e1] at b9;have E:=o.out.kept b9 (fun e=>e) (fun e=>e) (fun e=>e) (fun e=>e) (fun _ e=>e.elim);have Y:wd.cell? ⟨c8,0,none⟩=some (.pointer (some ⟨B,0,none⟩)):=E.k8.cell;have H3:=qh (y5k wd E.sc HV.out.n1 (by have:=HV.out.n2;omega));have o:=qh E;clear E b9 z7 T J;by_cases d9:i<=na
 ·have j3:(i:Int)<=(na:Int):=by omega
  have L6:¬ ((e:Int)=0):=by have:=fun h:e=0=>k1 ⟨d9,h⟩;omega
  go_wp2_with fail
  refine z0g (fun W=>W.cell? ⟨c8,0,none⟩=some (.pointer (some ⟨B,0,none⟩))) 7 (by kernel_rfl) ?_;rw[<- e1];clear e1;refine z0b.tl 0 Y (v:=?vak0) ?yw ?Yb
  case yw=>rintro U l;go_simp;try with_reducible rfl
  refine z0b.tl 1 Y (v:=?vak1) ?yx ?Yg
  case yx=>rintro U l;go_simp;try with_reducible rfl
  try simp only[Act.put,tryL]
  refine z0b.on 2 fun K X=>?_;go_simp;refine H3.out.mono ?_;rintro r wa ⟨rfl,d8,w0,_⟩;obtain⟨x3,e6⟩:=exq (wd.heap.size);rw[<- e6] at d8;rw[<- e6];have Q:=o.out.kept w0 (fun e=>e) (fun e=>e) (fun e=>e) (fun e=>e) (fun _ e=>e.elim);have g6:wa.cell? ⟨c8,0,none⟩=some (.pointer (some ⟨B,0,none⟩)):=Q.k8.cell;have q8:=qh (y3f (v:=z3j) w wa HV.out i9.out Q.hb l6.out Q.sc d8 Q.lc (z0e d8 (show wa.heap[B]?=_ from Q.sc) (by decide)) y4k j0.out.fin);have d7:=qh Q;clear Q d8 w0 e6;refine X.out _ _ (.inr g6) ?_;clear X K
  try simp only[Act.put,tryL]
  refine z0b.on 3 fun K X=>?_;go_simp;refine q8.out.mono ?_;rintro r wf ⟨rfl,e0⟩;have i8:wf.cell? ⟨c8,0,none⟩=some (.pointer (some ⟨B,0,none⟩)):=e0.cell g6 d7.out.n8;have q7:=qh e0;clear e0;refine X.out _ _ (.inr i8) ?_;clear X K
  try simp only[Act.put,tryL]
  refine z0b.tl 4 i8 (v:=?val4) ?zc ?Yo
  case zc=>rintro U l;go_simp;try with_reducible rfl
  refine z0b.tl 5 i8 (v:=?val5) ?zb ?Yr
  case zb=>rintro U l;go_simp;try with_reducible rfl
  refine z0b.tl 6 i8 (v:=?val6) ?yy ?Yk
  case yy=>rintro U l;go_simp;try with_reducible rfl
  try simp only[Act.put,tryL]
  refine z0b.on 7 fun K X=>?_;go_simp;refine X.out _ _ (.inl rfl) (z0b.done (by kernel_rfl) ?_ _);clear X K
  go_wp2_with fail
  go_ret2;exact⟨d7.out.hb.trans (q7.out.below d7.out.hb.size (fun q e=>by rw[e];exact d7.out.lc)),.inl ⟨HV.out,E3.out,F1.out,by rw[m9.out];rfl⟩⟩
 have j3:¬ ((i:Int)<=(na:Int)):=by omega
 go_wp2_with fail
 refine z0g (fun W=>W.cell? ⟨c8,0,none⟩=some (.pointer (some ⟨B,0,none⟩))) 7 (by kernel_rfl) ?_;rw[<- e1];clear e1;refine z0b.tl 0 Y (v:=?vbk0) ?yt ?Yc
 case yt=>rintro U l;go_simp;try with_reducible rfl
 refine z0b.tl 1 Y (v:=?vbk1) ?yu ?Xt
 case yu=>rintro U l;go_simp;try with_reducible rfl
 try simp only[Act.put,tryL]
 refine z0b.on 2 fun K X=>?_;go_simp;refine H3.out.mono ?_;rintro r wa ⟨rfl,d8,w0,_⟩;obtain⟨x3,e6⟩:=exq (wd.heap.size);rw[<- e6] at d8;rw[<- e6];have Q:=o.out.kept w0 (fun e=>e) (fun e=>e) (fun e=>e) (fun e=>e) (fun _ e=>e.elim);have g6:wa.cell? ⟨c8,0,none⟩=some (.pointer (some ⟨B,0,none⟩)):=Q.k8.cell;have q8:=qh (y3f (v:=z3j) w wa HV.out i9.out Q.hb l6.out Q.sc d8 Q.lc (z0e d8 (show wa.heap[B]?=_ from Q.sc) (by decide)) y4k j0.out.fin);have d7:=qh Q;clear Q d8 w0 e6;refine X.out _ _ (.inr g6) ?_;clear X K
 try simp only[Act.put,tryL]
 refine z0b.on 3 fun K X=>?_;go_simp;refine q8.out.mono ?_;rintro r wf ⟨rfl,e0⟩;have i8:wf.cell? ⟨c8,0,none⟩=some (.pointer (some ⟨B,0,none⟩)):=e0.cell g6 d7.out.n8;have q7:=qh e0;clear e0;refine X.out _ _ (.inr i8) ?_;clear X K
 try simp only[Act.put,tryL]
 refine z0b.tl 4 i8 (v:=?vbl4) ?yz ?Ya
 case yz=>rintro U l;go_simp;try with_reducible rfl
 refine z0b.tl 5 i8 (v:=?vbl5) ?zd ?Xx
 case zd=>rintro U l;go_simp;try with_reducible rfl
 refine z0b.tl 6 i8 (v:=?vbl6) ?za ?Yj
 case za=>rintro U l;go_simp;try with_reducible rfl
 try simp only[Act.put,tryL]
 refine z0b.on 7 fun K X=>?_;go_simp;refine X.out _ _ (.inl rfl) (z0b.done (by kernel_rfl) ?_ _);clear X K
 go_wp2_with fail
 go_ret2;exact⟨d7.out.hb.trans (q7.out.below d7.out.hb.size (fun q e=>by rw[e];exact d7.out.lc)),.inl ⟨HV.out,E3.out,F1.out,by rw[m9.out];rfl⟩⟩
end
section
open Go.RowKit Go.Deep
def z0x:EM:=⟨3,fun i=>if i=0 then ⟨1,fun _=>1,1,fun _=>2,⟨#[49]⟩⟩ else if i=1 then ⟨2,fun k=>if k=0 then 1 else 2,1,fun _=>3,⟨#[49]⟩⟩ else ⟨0,fun _=>0,1,fun _=>1,⟨#[50]⟩⟩,2⟩
def x12:Nat->Int:=fun i=>if i=0 then 1 else 2
theorem v2d:wgtC (cmpC z0x 3) 2 x12 1 (fun _=>3)=(⟨#[49]⟩,0):=by decide +kernel
theorem v6k:NoSil (cmpC z0x 3):=by
 have h:∀ q,q<(cmpC z0x 3).n->∀ k,k<(cmpC z0x 3).na q->silB ((cmpC z0x 3).ain q k) ((cmpC z0x 3).aout q k)=false:=by decide +kernel
 exact fun q k d c=>h q d k c
theorem x5u:y6a ⟨#[49]⟩:=z7q.1 (by decide +kernel)
theorem v7x:y6a ⟨#[50]⟩:=z7q.1 (by decide +kernel)
theorem z4b:VE z0x:=by
 refine⟨by decide,by decide,by decide,fun i hi=>?_⟩;have h:i=0\/i=1\/i=2:=by have:i<3:=hi;omega
 rcases h with rfl|rfl|rfl
 ·exact⟨by decide,by decide,by decide,fun j _=>by show 1<=(1:Int)/\(1:Int)<=500;omega,fun j _=>by show 1<=(2:Int)/\(2:Int)<=500;omega,x5u⟩
 ·exact⟨by decide,by decide,by decide,fun j _=>by show 1<=(if j=0 then (1:Int) else 2)/\(if j=0 then (1:Int) else 2)<=500;split<;>omega,fun j _=>by show 1<=(3:Int)/\(3:Int)<=500;omega,x5u⟩
 exact⟨by decide,by decide,by decide,fun j c=>absurd c (Nat.not_lt_zero _),fun j _=>by show 1<=(1:Int)/\(1:Int)<=500;omega,v7x⟩
theorem u5n:InSg z0x 3:=by
 intro i hi;have h:i=0\/i=1\/i=2:=by have:i<3:=hi;omega
 rcases h with rfl|rfl|rfl
 ·exact⟨fun j _=>by show 1<=(1:Int)/\(1:Int)<=3;omega,fun j _=>by show 1<=(2:Int)/\(2:Int)<=3;omega⟩
 ·exact⟨fun j _=>by show 1<=(if j=0 then (1:Int) else 2)/\(if j=0 then (1:Int) else 2)<=3;split<;>omega,fun j _=>by show 1<=(3:Int)/\(3:Int)<=3;omega⟩
 exact⟨fun j c=>absurd c (Nat.not_lt_zero _),fun j _=>by show 1<=(1:Int)/\(1:Int)<=3;omega⟩
theorem u0s:InSz z0x 3:=by
 have h:szC z0x z0x.n=4:=by decide +kernel
 unfold InSz;rw[h];decide
theorem v5x:VM (cmpC z0x 3):=by
 have c:(cmpC z0x 3).kind=1/\(cmpC z0x 3).start=0/\(cmpC z0x 3).lead=oneF 1:=y3g (y8c _ _) _;have g:(cmpC z0x 3).n=5:=by decide +kernel
 refine⟨by rw[c.1];decide,by rw[g];omega,by rw[g];omega,by rw[c.2.1];omega,by rw[c.2.1,g];omega,by rw[c.1,c.2.2];decide +kernel,by decide +kernel,?_,?_⟩
 ·have h:∀ i,i<(cmpC z0x 3).n->((cmpC z0x 3).fin i=⟨#[]⟩\/z0r (cmpC z0x 3).kind ((cmpC z0x 3).fin i)=true):=by decide +kernel
  exact fun i hi=>h i hi
 have h:∀ i,i<(cmpC z0x 3).n->∀ k,k<(cmpC z0x 3).na i->(0<=(cmpC z0x 3).ain i k/\(cmpC z0x 3).ain i k<=500)/\(0<=(cmpC z0x 3).aout i k/\(cmpC z0x 3).aout i k<=500)/\(0<=(cmpC z0x 3).ato i k/\(cmpC z0x 3).ato i k<((cmpC z0x 3).n:Int))/\z0r (cmpC z0x 3).kind ((cmpC z0x 3).aw i k)=true:=by decide +kernel
 intro i k hi j;obtain⟨⟨o,l⟩,⟨p,r⟩,⟨c1,c2⟩,d⟩:=h i hi k j;exact⟨o,l,p,r,c1,c2,d⟩
end
section
theorem v7n:z6a ⟨z0x,2,fun _=>1,2,fun _=>2⟩=(⟨#[50]⟩,0):=by decide +kernel
theorem v6t:z6a ⟨z0x,3,fun _=>1,3,fun _=>2⟩=(infS,0):=by decide +kernel
theorem v6q:z6a ⟨z0x,2,x12,2,x12⟩=(⟨#[48]⟩,0):=by decide +kernel
end
section
open Go.RowKit Go.Deep
def allocs (w:World) (l:List Obj):World:=l.foldl World.alloc w
theorem z1q:∀ (l:List Obj) (w a:World) (B:Nat),Below B a w->B<=w.heap.size->Below B a (allocs w l)
 | [],_,_,_,h,_=>h
 | o::l,w,a,B,h,hB=>z1q l (w.alloc o) a B (h.alloc hB o) (by simp;omega)
theorem y7v:∀ (l:List Obj) (w:World) {q:Nat},q<w.heap.size->(allocs w l).heap[q]?=w.heap[q]?
 | [],_,_,_=>rfl
 | o::l,w,q,h=>(y7v l (w.alloc o) (by simp;omega)).trans (blk_alloc_lt _ _ _ h)
theorem z0h:∀ (l:List Obj) (w:World) {i:Nat} {o:Obj},l[i]?=some o->(allocs w l).heap[w.heap.size+i]?=some o
 | [],_,_,_,h=>by simp at h
 | o'::l,w,0,o,h=>by
  simp at h;subst h;exact(y7v l (w.alloc o') (by simp)).trans (heap_alloc_new w o')
 | o'::l,w,i+1,o,h=>by
  have:=z0h l (w.alloc o') (i:=i) (o:=o) (by simpa using h);rw[show (w.alloc o').heap.size+i=w.heap.size+(i+1) by simp;omega] at this;exact this
theorem z3u {w:World} {b n:Nat} {c:Array Value} {t:TypeId} {f:Nat × Nat} {x:Nat->Int} (h:w.heap[b]?=some (.cells c t f)) (hn:n<=maxLen) (d:∀ i,i<n->c[i]?=some (.int .i64 (x i))):Si none w (.slice (some ⟨b,0,none⟩) n n) n x :=
 .inr ⟨b,0,n,rfl,⟨lt_of_block h,by simp⟩,Nat.le_refl _,hn,fun i hi=>by rw[Nat.zero_add];exact cell_of h i (d i hi)⟩
theorem x5y (w:World) (x:Nat->Int):Si none w (.slice none 0 0) 0 x:=.inl ⟨rfl,none,0,rfl,Nat.zero_le _⟩
theorem x9y {w:World} {b:Nat} {M:EM} {c:Array Value} {t:TypeId} {f:Nat × Nat} {F T:Nat->Value} (h:w.heap[b]?=some (.cells c t f)) (hn:M.n<=maxLen)
  (d:∀ i,i<M.n->c[i*3]?=some (F i)/\c[i*3+1]?=some (T i)/\c[i*3+2]?=some (.string (M.e i).w)/\Si none w (F i) (M.e i).nf (M.e i).f/\Si none w (T i) (M.e i).nt (M.e i).t):EdS none w (.slice (some ⟨b,0,none⟩) M.n M.n) M :=
 .inr ⟨b,0,M.n,F,T,rfl,⟨lt_of_block h,by simp⟩,Nat.le_refl _,hn,fun i hi=>by
  obtain⟨c1,c2,c3,c4,c5⟩:=d i hi;rw[Nat.zero_add];exact⟨cell_of h _ c1,cell_of h _ c2,cell_of h _ c3,c4,c5⟩⟩
theorem lt1 {p:Nat->Prop} (h:p 0):∀ i,i<1->p i:=fun i hi=>by
 have:i=0:=by omega
 subst this;exact h
theorem lt2 {p:Nat->Prop} (h:p 0) (c:p 1):∀ i,i<2->p i:=fun i hi=>by
 have:i=0\/i=1:=by omega
 rcases this with rfl|rfl<;>assumption
theorem lt3 {p:Nat->Prop} (h:p 0) (c:p 1) (d:p 2):∀ i,i<3->p i:=fun i hi=>by
 have:i=0\/i=1\/i=2:=by omega
 rcases this with rfl|rfl|rfl<;>assumption
theorem lt4 {p:Nat->Prop} (h:p 0) (d:p 1) (g:p 2) (c:p 3):∀ i,i<4->p i:=fun i hi=>by
 have:i=0\/i=1\/i=2\/i=3:=by omega
 rcases this with rfl|rfl|rfl|rfl<;>assumption
theorem z6e:1<=maxLen:=by unfold maxLen;omega
theorem y2g:2<=maxLen:=by unfold maxLen;omega
theorem x6d:3<=maxLen:=by unfold maxLen;omega
def BxE (w:World) (b:Nat) (sv:Value) (mo:Int):Prop:=w.heap[b]?=some (.cells #[sv,.int .i64 mo] 24 (0,0))
theorem BxE.range {w:World} {b:Nat} {sv:Value} {mo:Int} (h:BxE w b sv mo):w.rangeAt b 0 [sv,.int .i64 mo]:=by
 intro j v c;unfold BxE at h;have d:j<2:=by have:=(List.getElem?_eq_some_iff.1 c).1;simpa using this
 have:j=0\/j=1:=by omega
 rcases this with rfl|rfl<;>(simp at c;subst c;simp[World.cell?,h])
theorem x0h {w:World} {b:Nat} {sv:Value} {mo:Int} (h:BxE w b sv mo):(loadVar 24 ⟨b,0,none⟩).run prog w=.ok (.agg #[sv,.int .i64 mo]) w :=
 run_loadVar_mid (P:=prog) w b 0 24 [sv,.int .i64 mo] _ h.range underlying24 rfl (by kernel_rfl)
theorem x8f {fn:Func} {p:Tmp} (h:fn.results=#[.cell p 24]) (c:Array Value) {w:World} {b:Nat} {sv:Value} {mo:Int} (d:c.getD p undef=.pointer (some ⟨b,0,none⟩)) (hb:BxE w b sv mo) :
  (results fn c).run prog w=.ok (.agg #[sv,.int .i64 mo]) w:=by
 rw[z9e h,d];show ((loadVar 24 ⟨b,0,none⟩).run prog w)=_;exact x0h hb
theorem z4a {fn:Func} {p u:Tmp} (h:fn.results=#[.cell p 24,.tmp u]) (c:Array Value) {w:World} {b:Nat} {sv v:Value} {mo:Int} (g:c.getD p undef=.pointer (some ⟨b,0,none⟩)) (d:c.getD u undef=v) (hb:BxE w b sv mo) :
  (results fn c).run prog w=.ok (.tuple #[.agg #[sv,.int .i64 mo],v]) w:=by
 rw[results_cell_tmp h,g,d];show ((loadVar 24 ⟨b,0,none⟩).run prog w).andThen _=_;rw[x0h hb];rfl
def NewE (M:EM) (w:World) (r:Ending) (w':World):Prop:=Below w.heap.size w w'/\∃ sv,r=.returned (.agg #[sv,.int .i64 M.most])/\EdS none w' sv M
theorem z8s (w:World):Calls prog 31 #[] w (NewE z0x w):=by
 go_enter func31,ntmps31
 go_wp2_with fail
 obtain⟨l,c⟩:∃ l,l=[Obj.cells #[.slice (some ⟨w.heap.size+6,0,none⟩) 3 3,.int .i64 2] 24,.cells #[.int .i64 1] 3,.cells #[.int .i64 2] 3,.cells #[.int .i64 1,.int .i64 2] 3,.cells #[.int .i64 3] 3,.cells #[.int .i64 1] 3,
  .cells #[.slice (some ⟨w.heap.size+1,0,none⟩) 1 1,.slice (some ⟨w.heap.size+2,0,none⟩) 1 1,.string ⟨#[49]⟩,.slice (some ⟨w.heap.size+3,0,none⟩) 2 2,.slice (some ⟨w.heap.size+4,0,none⟩) 1 1,.string ⟨#[49]⟩,.slice none 0 0,.slice (some ⟨w.heap.size+5,0,none⟩) 1 1,.string ⟨#[50]⟩] 50]:=⟨_,rfl⟩
 have s:(allocs w l).heap[w.heap.size+0]?=_:=z0h l w (i:=0) (by rw[c];rfl);have o:(allocs w l).heap[w.heap.size+1]?=_:=z0h l w (i:=1) (by rw[c];rfl);have r:(allocs w l).heap[w.heap.size+2]?=_:=z0h l w (i:=2) (by rw[c];rfl);have p:(allocs w l).heap[w.heap.size+3]?=_:=z0h l w (i:=3) (by rw[c];rfl);have k:(allocs w l).heap[w.heap.size+4]?=_:=z0h l w (i:=4) (by rw[c];rfl);have j:(allocs w l).heap[w.heap.size+5]?=_:=z0h l w (i:=5) (by rw[c];rfl);have g:(allocs w l).heap[w.heap.size+6]?=_:=z0h l w (i:=6) (by rw[c];rfl);have d:=z1q l w w w.heap.size (Below.refl _ _) (Nat.le_refl _);subst c;refine bodyPost_ret (x8f rfl _ (b:=w.heap.size) rfl s) rfl ⟨d,_,rfl,?_⟩;refine x9y (M:=z0x) (F:=fun i=>if i=0 then .slice (some ⟨w.heap.size+1,0,none⟩) 1 1 else if i=1 then .slice (some ⟨w.heap.size+3,0,none⟩) 2 2 else .slice none 0 0)
  (T:=fun i=>if i=0 then .slice (some ⟨w.heap.size+2,0,none⟩) 1 1 else if i=1 then .slice (some ⟨w.heap.size+4,0,none⟩) 1 1 else .slice (some ⟨w.heap.size+5,0,none⟩) 1 1) g (by show 3<=maxLen;unfold maxLen;omega) (fun i hi=>?_)
 have h:i=0\/i=1\/i=2:=by have:i<3:=hi;omega
 rcases h with rfl|rfl|rfl
 ·exact⟨rfl,rfl,rfl,z3u o z6e (lt1 rfl),z3u r z6e (lt1 rfl)⟩
 ·exact⟨rfl,rfl,rfl,z3u p y2g (lt2 rfl rfl),z3u k z6e (lt1 rfl)⟩
 exact⟨rfl,rfl,rfl,x5y _ _,z3u j z6e (lt1 rfl)⟩
def y3h (P:EP):ByteArray:=if (z6a P).2≠0 then ⟨#[101,114,114,111,114]⟩ else (z6a P).1
theorem y5a {M:EM} {J N O:Value} {na nb:Nat} {x y:Nat->Int} (w:World) (S:Em none w J M) (K:ESz M) (P:Tab w) (E:Si none w N na x) (I:Si none w O nb y) (L:VE M) (o:isWord na x=true) (s:isWord nb y=true) :
  Calls prog 32 #[J,N,O] w (fun r w'=>r=.returned (.string (y3h ⟨M,na,x,nb,y⟩))/\Below w.heap.size w w'):=by
 obtain⟨sv,rfl,C⟩:=S;obtain⟨a,l,_,_,_,_,_,_,v,_⟩:=C.open;obtain⟨X,cx,rfl⟩:=E.shape;obtain⟨ay,Y,rfl⟩:=I.shape;subst v;obtain⟨j,g⟩:=exq (w.alloc (.cells #[.slice a M.n l,.int .i64 M.most] 24));have u:Fr (fun _=>False) w j:=by rw[g];exact Fr.alloc _ _
 have c:Below w.heap.size w j:=u.below (Nat.le_refl _) (fun _ e=>e.elim);have U:=qh (v3p j (⟨_,rfl,C.kept (z0c c none)⟩:Em none j (.agg #[.slice a M.n l,.int .i64 M.most]) M) K (P.below c (Nat.le_refl _)) (E.kept (z0c c none)) (I.kept (z0c c none)));have i:=qh c;clear c u E I C P K;have H:=qh (show VE M/\isWord na x=true/\isWord nb y=true from ⟨L,o,s⟩);clear L o s;obtain⟨B,h⟩:=exq (y3h ⟨M,na,x,nb,y⟩);obtain⟨z,D⟩:=exq (z6a ⟨M,na,x,nb,y⟩);rw[<- h];have Q:B=if z.2≠0 then ⟨#[101,114,114,111,114]⟩ else z.1:=by rw[h,D];rfl
 have T:=qh D;clear D h;have R:=qh Q;clear Q
 go_enter func32,ntmps32
 go_wp2_with fail
 rw[<- g];clear g;refine U.out.mono ?_;rintro r Z ⟨k,W⟩
 rcases W with ⟨_,_,_,rfl⟩|⟨A,rfl⟩
 rotate_left
 ·exact absurd H.out A
 have p:=qh (i.out.trans (k.mono i.out.size));clear k i;rw[<- T.out];by_cases G:z.2=0
 ·have F:(z.2:Int)=0:=by omega
  have d:=qh (R.out.trans (if_neg (by omega)));clear G
  go_wp2_with fail
  go_ret;exact⟨y2k d.out.symm,p.out⟩
 have F:¬ ((z.2:Int)=0):=by omega
 have d:=qh (R.out.trans (if_pos G));clear G
 go_wp2_with fail
 go_ret;exact⟨y2k d.out.symm,p.out⟩
end
end Go.Proofs.YtjekapjbigfkbaaGreatDoor
