/- Parts of a proof: WgX W8F R8C R8A R7A R7S R8B RWd R8D WVal Box CpyS BlA. -/
import Derived.Test.YteappjogmnogcaaGreatDoorU10
import Derived.Test.YteappjogmnogcaaGreatDoorU09
import Derived.Test.YteappjogmnogcaaGreatDoorU08
import Derived.Test.YteappjogmnogcaaGreatDoorU06
import Derived.Deep.QuietTactic
import Derived.BigQuiet
import Derived.Deep.AppendLies
import Derived.Laws.IdiomCopy
import Derived.Lib.SlBuf
import Derived.Test.YteappjogmnogcaaGreatDoorU07
import Derived.Laws.ResultCell
import Derived.Laws.CopyOwn
namespace Go.Proofs.YteappjogmnogcaaGreatDoor
set_option maxRecDepth 100000
set_option linter.unusedSimpArgs false
set_option linter.unusedVariables false
set_option linter.unusedSectionVars false
set_option maxHeartbeats 16000000
open Go Tryz
section
open Go.RowKit Go.Deep
theorem x2e {D:MD} {mv xv yv:Value} {na nb:Nat} {x y:Nat->Int} (w:World) (hM:Ma none w mv D) (H8:MSz D) (ht:Tab w) (hx:Si none w xv na x) (hy:Si none w yv nb y) (L1:(na:Int)<=9223372036854775807) (K8:(nb:Int)<=9223372036854775807) :
  Calls prog 35 #[mv,xv,yv] w (WgtX D na x nb y w):=by
 obtain⟨sv,rfl,hS⟩:=hM;obtain⟨a,cap,b,N6,A,C,BB,O,i8,_⟩:=hS.open;obtain⟨ax,cx,rfl⟩:=hx.shape;obtain⟨ay,cy,rfl⟩:=hy.shape;subst i8;obtain⟨w1,z2⟩:=exq (w.alloc (.cells #[.int .i64 D.kind,.int .i64 D.start,.string D.lead,.slice a D.n cap] 24));obtain⟨w2,z3⟩:=exq (w1.alloc (.cells #[.slice ax na cx] 25));obtain⟨w3,z6⟩:=exq (w2.alloc (.cells #[.slice ay nb cy] 25));have G8:w1.heap.size=w.heap.size+1:=by rw[z2];simp
 have G9:w2.heap.size=w.heap.size+1+1:=by rw[z3];simp[G8]
 have L9:w3.heap.size=w.heap.size+1+1+1:=by rw[z6];simp[G9]
 have J3:Fr (fun _=>False) w w1:=by rw[z2];exact Fr.alloc _ _
 have c7:Fr (fun _=>False) w1 w2:=by rw[z3];exact Fr.alloc _ _
 have C3:Fr (fun _=>False) w2 w3:=by rw[z6];exact Fr.alloc _ _
 have D5:BoxM w1 w.heap.size D (.slice a D.n cap):=by rw[z2];exact BoxM.new w D _
 have l9:BoxM w3 w.heap.size D (.slice a D.n cap):=(((C3.block _ (by omega) (fun e=>e)).trans (c7.block _ (by omega) (fun e=>e))).trans D5);have D0:Bx w2 (w.heap.size+1) 25 (.slice ax na cx):=by rw[<- G8,z3];exact heap_alloc_new w1 _
 have H4:Bx w3 (w.heap.size+1) 25 (.slice ax na cx):=D0.kept C3 (fun e=>e);have H9:Bx w3 (w.heap.size+1+1) 25 (.slice ay nb cy):=by rw[<- G9,z6];exact heap_alloc_new w2 _
 have C4:Below w.heap.size w w3:=((J3.trans c7).trans C3).below nlr (fun _ e=>e.elim);obtain⟨mb,G4⟩:=exq (w.heap.size);obtain⟨xb,I9⟩:=exq (w.heap.size+1);obtain⟨yb,H5⟩:=exq (w.heap.size+1+1);rw[<- G4] at l9;rw[<- I9] at H4;rw[<- H5] at H9;have O5:w.heap.size<=mb:=by omega
 have m0:=l9.c0;have m1:=l9.c1;have m2:=l9.c2;have m3:=l9.c3;have L5:=qh (z1t w3 (⟨_,rfl,hS.kept (z0b C4 none)⟩:Ma none w3 (.agg #[.int .i64 D.kind,.int .i64 D.start,.string D.lead,.slice a D.n cap]) D) H8 (ht.below C4 nlr));clear J3 c7 C3 D5 D0 G8 G9 L9;have G6:=qh C4;clear C4;have I6:=qh l9;clear l9;have x8:=qh H4;clear H4;have r7:=qh H9;clear H9;have j0:=qh H8;clear H8;have i9:=qh ht;clear ht;have HX:=qh hx;clear hx;have HY:=qh hy;clear hy;have k4:=qh hS;clear hS
 go_enter func35,ntmps35
 go_wp2_with fail
 rw[<- z2,<- z3,<- z6,<- H5,<- I9,<- G4];clear z2 z3 z6 G4 I9 H5 m0 m1 m2 m3;refine L5.out.mono ?_;rintro r w4 ⟨y9,hr⟩;have E0:=G6.out.trans (y9.mono G6.out.size);have F2:BoxM w4 mb D (.slice a D.n cap):=(y9.block _ I6.out.lt).trans I6.out;have y2:Bx w4 xb 25 (.slice ax na cx):=(y9.block _ x8.out.lt).trans x8.out;have D8:Bx w4 yb 25 (.slice ay nb cy):=(y9.block _ r7.out.lt).trans r7.out;have c4:=y2.cell;have e5:=qh E0;clear E0 y9 G6 L5;have k1:=qh F2;clear F2 I6;have A3:=qh y2;clear y2 x8;have n7:=qh D8;clear D8 r7
 rcases hr with ⟨hv,rfl⟩|⟨hv,rfl⟩
 rotate_left
 ·have HV:=qh hv;clear hv;go_wp2;go_ret2;exact⟨e5.out,.inr ⟨fun h=>HV.out h.1,rfl⟩⟩
 have HV:=qh hv;clear hv;have L8:=qh (y2h w4 (HX.out.kept (z0b e5.out none)) L1)
 go_wp2_with fail
 refine L8.out.mono ?_;rintro r M2 ⟨rfl,rfl⟩;cases p7:isWord na x
 ·go_wp2;go_ret2;exact⟨e5.out,.inr ⟨fun h=>absurd h.2.1 (by rw[p7];simp),rfl⟩⟩
 have N1:na<=200:=by unfold isWord at p7;simp at p7;exact p7.1
 have I3:=qh p7;clear p7 L8 L1;have d4:=n7.out.cell;have K6:=qh (y2h M2 (HY.out.kept (z0b e5.out none)) K8)
 go_wp2_with fail
 refine K6.out.mono ?_;rintro r w5 ⟨rfl,rfl⟩;cases p6:isWord nb y
 ·go_wp2;go_ret2;exact⟨e5.out,.inr ⟨fun h=>absurd h.2.2 (by rw[p6];simp),rfl⟩⟩
 have N2:nb<=200:=by unfold isWord at p6;simp at p6;exact p6.1
 have I0:=qh p6;clear p6 K6 K8 c4;have m0:=k1.out.c0;have m1:=k1.out.c1;have m2:=k1.out.c2;have m3:=k1.out.c3;have J1:=qh (y9r w5 HV.out (k4.out.kept (z0b e5.out none)) j0.out.aw (i9.out.below e5.out nlr) u2y)
 go_wp2_with fail
 refine J1.out.mono ?_;rintro r w6 ⟨y1,o,e6,st,e0,rfl,K5,I8,F0,D2⟩;have uu2:=qh D2;clear D2;have L4:=qh F0;clear F0;have L0:=qh I8;have j1:=qh (show w.heap.size<=w6.heap.size from Nat.le_trans e5.out.size y1.size);obtain⟨m,hm⟩:=exq (nb+1);have C2:=run_make_row' (P:=prog) 101 102 (.slice none 0 0) 24 underlying101 x0e rfl .i64 .i64 m (by omega) (by omega);have s8:((m:Nat):Int)=(nb:Int)+1:=by omega
 rw[s8] at C2;have HM:=qh hm;clear hm;have A5:=e5.out.trans (y1.mono e5.out.size);have C8:Bx w6 xb 25 (.slice ax na cx):=(y1.block _ A3.out.lt).trans A3.out;have D9:Bx w6 yb 25 (.slice ay nb cy):=(y1.block _ n7.out.lt).trans n7.out;obtain⟨w7,k9⟩:=exq (w6.alloc (.cells #[.pointer (some ⟨o,0,none⟩)] 98));obtain⟨c8,G2⟩:=exq (w6.heap.size);have f5:Fr (fun _=>False) w6 w7:=by rw[k9];exact Fr.alloc _ _
 have h8:Bx w7 c8 98 (.pointer (some ⟨o,0,none⟩)):=by rw[k9,G2];exact heap_alloc_new w6 _
 have J2:w.heap.size<=o:=Nat.le_trans e5.out.size K5;have c:WG w w6 w7 o c8 xb yb D (.slice a D.n cap) e6 (.slice ax na cx) (.slice ay nb cy) e0:=⟨A5.trans (f5.below A5.size (fun _ e=>e.elim)),⟨f5.os,f5.tape,f5.output,f5.size,fun q hq _=>f5.block q hq (fun e=>e)⟩,I8.kept f5 (fun e=>e),h8,C8.kept f5 (fun e=>e),D9.kept f5 (fun e=>e),J2,j1.out⟩;have d6:=c.ky.cell;obtain⟨w8,A8⟩:=exq (w7.alloc (.cells (madeCells #[.slice none 0 0] m) 102));have K4:w7.heap.size=w6.heap.size+1:=by rw[k9];simp
 obtain⟨g,hg⟩:=exq (w6.heap.size+1);have K1:Fr (fun _=>False) w7 w8:=by rw[A8];exact Fr.alloc _ _
 have l1:w8.rowIs g 102 m (fun _=>.slice none 0 0):=by rw[A8,hg,<- K4];exact World.rowIs_made w7 (.slice none 0 0) m 102
 have n9:=c.kept K1 (fun e=>e) (fun e=>e) (fun e=>e) (fun e=>e) (fun _ e=>e.elim);have k8:=n9.k8.cell;have J9:=qh (y6e w8 n9.sc HV.out.n1 (by have:=HV.out.n2;omega) HV.out.s0 HV.out.s1);have f0:=l1.frozen 0;have G3:w6.heap.size<=g:=by omega
 have q9:=qh n9;clear n9 c;have m8:=qh l1;clear l1;have M6:=qh f5;clear f5;have K9:g<w8.heap.size:=m8.out.lt;have M5:w6.heap.size<=w8.heap.size:=q9.out.gs.size;clear A5 C8 D9 A3 n7 k1 e5 y1 I8 K5 m0 m1 m2 m3 d4 J1 h8 K1 K4;rw[k9] at d6;rw[A8,k9] at k8
 go_wp2_with fail
 rw[<- hg,<- G2,<- k9,<- A8];clear d6 k8 k9 A8 G2 hg M6 C2 s8;refine J9.out.mono ?_;rintro r w9 ⟨rfl,q7,I1⟩;obtain⟨r0,Z⟩:=exq (w8.heap.size);rw[<- Z] at q7;rw[<- Z];have i3:=q9.out.kept I1 (fun e=>e) (fun e=>e) (fun e=>e) (fun e=>e) (fun _ e=>e.elim);have b8:=I1.row m8.out (fun e=>e);have M4:(0:Int)<(m:Int):=by have:=HM.out;omega
 have f0:=b8.frozen 0;have g0:=b8.cell (i:=0) (by have:=HM.out;omega);have J4:g≠r0:=by omega
 have L2:Fr (fun q=>q=g) w9 (w9.setCell ⟨g,0,none⟩ (.slice (some ⟨r0,0,none⟩) D.n D.n)):=(Fr.refl (fun q=>q=g) w9).set (p:=⟨g,0,none⟩) (.inl rfl) _;have v7:WG w w6 (w9.setCell ⟨g,0,none⟩ (.slice (some ⟨r0,0,none⟩) D.n D.n)) o c8 xb yb D (.slice a D.n cap) e6 (.slice ax na cx) (.slice ay nb cy) e0 :=
  i3.kept L2 (fun e=>z0f b8 i3.sc (by decide) e.symm) (fun e=>z0f b8 i3.k8 (by decide) e.symm) (fun e=>z0f b8 i3.kx (by decide) e.symm) (fun e=>z0f b8 i3.ky (by decide) e.symm) (fun q e=>by rw[e];exact G3)
 have z8:VR1 (w9.setCell ⟨g,0,none⟩ (.slice (some ⟨r0,0,none⟩) D.n D.n)) w6.heap.size g m D.n (fun j=>if j=0 then some r0 else none) (fun j=>if j=0 then some (z6k D) else none):=by
  refine⟨(b8.set 0 _).congr (fun j _=>?_),G3,fun j _=>?_,fun j r x hj H h2=>?_,fun j j' r hj N7 H h2=>?_,fun j x H q=>?_⟩
  ·by_cases e:j=0
   ·rw[if_pos e,if_pos e];rfl
   rw[if_neg e,if_neg e];rfl
  ·by_cases e:j=0
   ·rw[if_pos e,if_pos e];simp
   rw[if_neg e,if_neg e];simp
  ·by_cases e:j=0
   ·rw[if_pos e] at H h2;cases H;cases h2;exact⟨q7.setOther (a:=⟨g,0,none⟩) (fun e=>J4 e.symm) _,by omega⟩
   rw[if_neg e] at H;cases H
  ·by_cases e:j=0
   ·by_cases e':j'=0
    ·rw[e,e']
    rw[if_neg e'] at h2;cases h2
   rw[if_neg e] at H;cases H
  by_cases e:j=0
  ·rw[if_pos e] at H;cases H;unfold z6k;split
   ·exact j0.out.lead
   exact z6s 0
  rw[if_neg e] at H;cases H
 have l4:=qh v7;clear v7 L2;have m9:=qh z8;clear z8;clear J9 I1 q7 i3 b8 m8 q9 J4 Z K9 M5;obtain⟨p8,o2⟩:=exq (w9.setCell ⟨g,0,none⟩ (.slice (some ⟨r0,0,none⟩) D.n D.n));rw[<- o2] at l4 m9;obtain⟨B4,y7⟩:=exq (w9.heap.size);have F3:p8.heap.size=w9.heap.size:=by rw[o2,nblk_setCell]
 obtain⟨C1,n6⟩:=exq (p8.alloc (.cells #[.int .i64 0] 3));have r8:Fr (fun _=>False) p8 C1:=by rw[n6];exact Fr.alloc _ _
 have x7:Bx C1 B4 3 (.int .i64 ((0:Nat):Int)):=by rw[n6,y7,<- F3];exact heap_alloc_new p8 _
 have y0:=qh (l4.out.kept r8 (fun e=>e) (fun e=>e) (fun e=>e) (fun e=>e) (fun _ e=>e.elim));clear l4;have r4:=qh (m9.out.kept r8);clear m9 r8;have x4:=qh x7;clear x7
 go_wp2_with fail
 rw[<- o2,<- n6,<- y7];clear n6 y7 F3 o2 f0 g0 M4;have O0:m<=201:=by have:=HM.out;omega
 go_loopw [9,10] (fun v9 I4 wr=>∃ (i e g ib:Nat) (R:Nat->Option Nat) (S:Nat->Option VV),i<=na+1/\v9=.slice (some ⟨g,0,none⟩) m m/\I4=.pointer (some ⟨ib,0,none⟩)/\Bx wr ib 3 (.int .i64 (i:Int))/\VR1 wr w6.heap.size g m D.n R S /\
  WG w w6 wr o c8 xb yb D (.slice a D.n cap) e6 (.slice ax na cx) (.slice ay nb cy) e/\outG D st na x nb y (na+1-i) i S e=wgtG D st e0 na x nb y) (fun _ I4 wr=>na+2-ixOf I4 wr)
 case atStart=>exact⟨0,e0,g,B4,_,_,Nat.zero_le _,rfl,rfl,x4.out,r4.out,y0.out,rfl⟩
 obtain⟨i,e,g,ib,R,S,hi,rfl,rfl,B,k,c,c9⟩:=hrel;clear x4 r4 y0 G3;have J:=qh B;clear B;have I:=qh k;clear k;have l:=qh c;clear c;have B1:=qh c9;clear c9;have HI:=qh (y1m J.out.cell);have ci:=J.out.cell;have b1:=l.out.kx.cell;have M3:=l.out.k8.cell;have c5:=l.out.sc.c5;by_cases j3:i<=na/\e=0
 ·obtain⟨N9,rfl⟩:=j3;have N8:(i:Int)<=(na:Int):=by omega
  have a8:=l.out.ky.cell;have C2:=run_make_row' (P:=prog) 101 102 (.slice none 0 0) 24 underlying101 x0e rfl .i64 .i64 m (by have:=HM.out;omega) (by have:=HM.out;omega);have s8:((m:Nat):Int)=(nb:Int)+1:=by have:=HM.out;omega
  rw[s8] at C2;clear s8;have O1:∀ (fn:Fn) (first cap:Array Value) (w:World),(Instr.makeFunc fn first cap).run prog w=.ok (.func fn first cap) w:=fun _ _ _ _=>rfl
  obtain⟨wn,B7⟩:=exq (wr.alloc (.cells (madeCells #[.slice none 0 0] m) 102));obtain⟨g2,I7⟩:=exq (wr.heap.size);have B3:Fr (fun _=>False) wr wn:=by rw[B7];exact Fr.alloc _ _
  have v6:wn.rowIs g2 102 m (fun _=>.slice none 0 0):=by rw[B7,I7];exact World.rowIs_made wr (.slice none 0 0) m 102
  have o8:=I.out.two B3 (show wr.heap.size<=g2 by omega) l.out.gs.size v6;obtain⟨gg,C0⟩:∃ gg:Bool->Nat,gg=fun b=>if b then g2 else g:=⟨_,rfl⟩
  rw[<- C0] at o8;have L3:gg false=g:=by rw[C0];rfl
  have L6:gg true=g2:=by rw[C0];rfl
  have b4:=qh L3;clear L3;have p9:=qh L6;clear L6 C0;obtain⟨R2,L7⟩:∃ R2:Bool->Nat->Option Nat,R2=fun b=>if b then fun _=>none else R:=⟨_,rfl⟩
  rw[<- L7] at o8;clear L7;have E2:=qh (l.out.kept B3 (fun e=>e) (fun e=>e) (fun e=>e) (fun e=>e) (fun _ e=>e.elim));clear l;have E9:=qh (J.out.kept B3 (fun e=>e));clear J;have E8:=qh o8;clear o8 I B3 v6
  go_wp2_with fail
  rw[<- I7,<- B7];clear I7 B7 ci b1 M3 c5 a8;obtain⟨s0,B6⟩:∃ s0:RS,s0=(twoR S (fun _=>none),0):=⟨_,rfl⟩;have J5:=qh B6
  go_loopw [57] (fun H7 wr=>∃ (j:Nat) (R:Bool->Nat->Option Nat) (s:RS),j<=m/\H7=.int .i64 (j:Int)/\s=colG D st na x nb y i j s0/\VR wr w6.heap.size gg m D.n R s.1/\WG w w6 wr o c8 xb yb D (.slice a D.n cap) e6 (.slice ax na cx) (.slice ay nb cy) s.2/\Bx wr ib 3 (.int .i64 (i:Int))) (fun H7 _=>m-(intOf H7).toNat)
  case atStart=>exact⟨0,R2,s0,Nat.zero_le _,rfl,rfl,by rw[B6];exact E8.out,by rw[B6];exact E2.out,E9.out⟩
  obtain⟨j,Rp,sp,hj,rfl,j8,k,c,B⟩:=hrel;clear E8 E2 E9 B6;have I:=qh k;clear k;have l:=qh c;clear c;have J:=qh B;clear B;have B9:=qh j8;clear j8;by_cases a1:j<m
  ·have g5:=qh a1;have N5:(j:Int)<(m:Int):=by omega
   have N0:(0:Int)<=(j:Int):=by omega
   obtain⟨wj,l5⟩:=exq (wr.alloc (.cells #[.int .i64 (j:Int)] 3));obtain⟨jb,z⟩:=exq (wr.heap.size);have C6:Fr (fun _=>False) wr wj:=by rw[l5];exact Fr.alloc _ _
   have K3:Bx wj jb 3 (.int .i64 (j:Int)):=by rw[l5,z];exact heap_alloc_new wr _
   have x0:=I.out.kept C6 (fun _ e=>e) (fun _ _ _ _ _ e=>e);have hg:=(x0.top false).cell a1;rw[b4.out] at hg;have v5:=qh (l.out.kept C6 (fun e=>e) (fun e=>e) (fun e=>e) (fun e=>e) (fun _ e=>e.elim));clear l;have uu3:=qh (J.out.kept C6 (fun e=>e));clear J;have D4:=qh K3;clear K3;have k0:=qh x0;clear x0 I C6;cases i8:sp.1 false j with
   | none =>
    have hr:=(k0.out.non false j a1).2 i8;rw[hr] at hg;have l8:wj.cell? ⟨g,j,none⟩=some (.slice none 0 0):=hg;have hq:=fun w=>y1a 102 9 underlying102 w none 0 0;rw[show (none:Option Addr).isNone=true from rfl] at hq;rw[l5] at l8;have j4:colG D st na x nb y i (j+1) s0=sp:=by show y0i D st na x nb y i j (colG D st na x nb y i j s0)=sp;rw[<- B9.out];unfold y0i;rw[i8]
    have e2:=qh j4;clear j4 i8 hr hg
    go_wp2_with fail
    rw[<- l5];go_roundw
    case rel=>exact⟨j+1,Rp,sp,by have:=g5.out;omega,by go_num,e2.out.symm,k0.out,v5.out,uu3.out⟩
    simp[intOf];have:=g5.out;omega
   | some vp =>
    obtain⟨rp,l7,E4,_⟩:=k0.out.some_of a1 i8;rw[l7] at hg;have l8:wj.cell? ⟨g,j,none⟩=some (.slice (some ⟨rp,0,none⟩) D.n D.n):=hg;have hq:=fun w=>y1a 102 9 underlying102 w (some ⟨rp,0,none⟩) D.n D.n;rw[show (some (⟨rp,0,none⟩:Addr)).isNone=false from rfl] at hq;obtain⟨rr,H2⟩:=exq (z3x D.kind D.n st vp sp.2);have j4:colG D st na x nb y i (j+1) s0=cell3 D na x nb y i j rr.1 (cell2 D na x i j rr.1 (cell1 D nb y j rr.1 (updV sp.1 false j rr.1,rr.2))):=by show y0i D st na x nb y i j (colG D st na x nb y i j s0)=_;rw[<- B9.out,H2];unfold y0i;rw[i8]
    have G5:=qh H2;clear H2;have e2:=qh j4;clear j4;have v8:=qh i8;clear i8;have D1:=qh E4;clear E4;have b9:=qh l7;clear l7;rw[l5] at l8
    go_wp2_with fail
    rw[<- z,<- l5];clear l5 z l8 hg hq;have b2:Fr (fun _=>False) wj wj.drew:=(Fr.refl _ _).drew;obtain⟨wd,e3⟩:=exq (wj.drew);rw[<- e3] at b2;have u:=v5.out.kept b2 (fun e=>e) (fun e=>e) (fun e=>e) (fun e=>e) (fun _ e=>e.elim);have a7:=k0.out.kept b2 (fun _ e=>e) (fun _ _ _ _ _ e=>e);have j6:=uu3.out.kept b2 (fun e=>e);have f7:=D4.out.kept b2 (fun e=>e);have W:wd.cell? ⟨c8,0,none⟩=some (.pointer (some ⟨o,0,none⟩))/\wd.cell? ⟨jb,0,none⟩=some (.int .i64 (j:Int))/\wd.cell? ⟨g,j,none⟩=some (.slice (some ⟨rp,0,none⟩) D.n D.n) :=
     ⟨u.k8.cell,f7.cell,by have H:=(a7.top false).cell a1;rw[b4.out,b9.out] at H;exact H⟩
    have x1:=a7.sm false j vp v8.out;have F8:=L4.out.later L0.out u.sc u.gs;have K2:=qh (y4y (rb:=rp) (st:=st) (v:=vp) wd HV.out u.sc F8 (b2.row D1.out (fun e=>e)) x1 w u.hb u.lc i9.out);clear F8;have e7:=qh u;clear u v5;have h4:=qh a7;clear a7 k0;have uu8:=qh j6;clear j6 uu3;have x3:=qh f7;clear f7 D4 b2;have E7:=qh x1;clear x1 D1;refine z0g (fun T=>T.cell? ⟨c8,0,none⟩=some (.pointer (some ⟨o,0,none⟩))/\T.cell? ⟨jb,0,none⟩=some (.int .i64 (j:Int))/\T.cell? ⟨g,j,none⟩=some (.slice (some ⟨rp,0,none⟩) D.n D.n)) 9 (by kernel_rfl) ?_;rw[<- e3];clear e3;refine z0c.tm 0 W ?_;refine z0c.tm 1 W ?_;refine z0c.tm 2 W ?_;refine z0c.tm 3 W ?_;refine z0c.tm 4 W ?_;refine z0c.tm 5 W ?_;refine z0c.tm 6 W ?_
    try simp only[Act.put,tryL]
    refine z0c.on 7 fun K U=>?_;go_simp;refine K2.out.mono ?_;rintro r N ⟨rv,rfl,l3,z4,J7,a3⟩;rw[<- G5.out] at l3 z4;have d0:∀ b,gg b≠o:=fun b=>h4.out.gne_of (show wd.heap[o]?=_ from e7.out.sc) (by decide) b;have d3:∀ b j r,j<m->Rp b j=some r->r≠o:=fun b j r H h2=>h4.out.rne_of (show wd.heap[o]?=_ from e7.out.sc) (by decide) H h2;have a9:ib≠o:=Bx.ne_scl uu8.out e7.out.sc;have b0:jb≠o:=Bx.ne_scl x3.out e7.out.sc;have v3:g≠o:=by rw[<- b4.out];exact d0 false
    have f1:=e7.out.rested a3 z4;have s6:=uu8.out.kept a3 a9;have n5:=x3.out.kept a3 b0;have F6:∀ q,smS (rr.1 q):=by rw[G5.out];exact y2m E7.out
    have A2:=h4.out.rested (b:=false) (x:=rr.1) a1 b9.out v8.out a3 d0 d3 l3 F6 J7 e7.out.gs.size;rw[b4.out] at A2;have t7:VR (N.setCell ⟨g,j,none⟩ (.slice (some ⟨rv,0,none⟩) D.n D.n)) w6.heap.size gg m D.n (fun b' j'=>if b'=false/\j'=j then some rv else Rp b' j') (updV sp.1 false j rr.1):=A2
    have d2:N.cell? ⟨c8,0,none⟩=some (.pointer (some ⟨o,0,none⟩))/\N.cell? ⟨jb,0,none⟩=some (.int .i64 (j:Int))/\N.cell? ⟨g,j,none⟩=some (.slice (some ⟨rp,0,none⟩) D.n D.n) :=
     ⟨f1.k8.cell,n5.cell,a3.cell W.2.2 v3⟩
    have m7:N.rowIs g 102 m (fun j=>vrV D.n (Rp false j)):=by
     have H:=h4.out.top false;rw[b4.out] at H;exact a3.row H v3
    have fg:=m7.frozen j;have o7:Fr (fun q=>q=g) N (N.setCell ⟨g,j,none⟩ (.slice (some ⟨rv,0,none⟩) D.n D.n)):=(Fr.refl (fun q=>q=g) N).set (p:=⟨g,j,none⟩) (.inl rfl) _;have F:∀ q cs t fr,N.heap[q]?=some (.cells cs t fr)->t≠102->¬ (q=g):=fun q cs t fr H h2 e=>z0f m7 H h2 e.symm;have D7:=f1.kept o7 (F o _ _ _ f1.sc (by decide)) (F c8 _ _ _ f1.k8 (by decide)) (F xb _ _ _ f1.kx (by decide)) (F yb _ _ _ f1.ky (by decide)) (fun q e=>by rw[e,<- b4.out];exact h4.out.low false);have D6:=s6.kept o7 (F ib _ _ _ s6 (by decide));have E6:=n5.kept o7 (F jb _ _ _ n5 (by decide));have l:=qh D7;clear D7 f1 e7;have J:=qh D6;clear D6 s6 uu8;have a2:=qh E6;clear E6 n5 x3;have I:=qh t7;clear t7 A2 h4;clear o7 F m7 F6 a9 b0 v3 d0 d3 l3 z4 J7 a3 E7;refine U.out _ _ (.inr d2) ?_;clear U K W
    try simp only[Act.put,tryL]
    refine z0c.tm 8 d2 ?_
    try simp only[Act.put,tryL]
    have g0:=d2.2.2;refine z0c.on 9 fun K U=>?_;go_simp;refine U.out _ _ (.inl rfl) (z0c.dn ?_);clear U K K2;obtain⟨ws,H1⟩:=exq (N.setCell ⟨g,j,none⟩ (.slice (some ⟨rv,0,none⟩) D.n D.n));rw[<- H1] at I l J a2;rw[<- H1];clear H1 d2 fg g0;obtain⟨v,hv⟩:=exq (rr.1);obtain⟨s1,j8⟩:∃ s1:RS,s1=(updV sp.1 false j rr.1,rr.2):=⟨_,rfl⟩;obtain⟨R,hR⟩:∃ R:Bool->Nat->Option Nat,R=fun b' j'=>if b'=false/\j'=j then some rv else Rp b' j':=⟨_,rfl⟩
    have E:R false j=some rv:=by rw[hR];exact if_pos ⟨rfl,rfl⟩
    have Q:s1.1 false j=some v:=by rw[j8,hv];exact z6w _ _ _ _
    have uu0:=I.out;rw[<- hR,show updV sp.1 false j rr.1=s1.1 by rw[j8]] at uu0;have r2:=l.out;rw[show rr.2=s1.2 by rw[j8]] at r2;have l6:=e2.out;rw[<- j8,<- hv] at l6;clear I l e2 b9;have I:=qh uu0;clear uu0;have l:=qh r2;clear r2;have e2:=qh l6;clear l6;have b9:=qh E;clear E;have o6:=qh Q;clear Q G5 v8;clear j8 hR hv B9;by_cases k5:j<nb
    ·have K0:(j:Int)<(nb:Int):=by omega
     have ci:=J.out.cell;have cj:=a2.out.cell;have b1:=l.out.kx.cell;have a8:=l.out.ky.cell
     go_wp2_with fail
     clear ci cj b1 a8;have a4:=qh (show (j+1)<m by have:=HM.out;omega);have i4:Fr (fun _=>False) ws ws.drew:=(Fr.refl _ _).drew;obtain⟨k6,uu4⟩:=exq (ws.drew);rw[<- uu4] at i4;have L:=l.out.kept i4 (fun e=>e) (fun e=>e) (fun e=>e) (fun e=>e) (fun _ e=>e.elim);have n3:=I.out.kept i4 (fun _ e=>e) (fun _ _ _ _ _ e=>e);have F4:=J.out.kept i4 (fun e=>e);have x5:=a2.out.kept i4 (fun e=>e);have e9:k6.cell? ⟨c8,0,none⟩=some (.pointer (some ⟨o,0,none⟩))/\k6.cell? ⟨jb,0,none⟩=some (.int .i64 (j:Int))/\k6.cell? ⟨g,j,none⟩=some (.slice (some ⟨rv,0,none⟩) D.n D.n) :=
      ⟨L.k8.cell,x5.cell,by have H:=(n3.top false).cell a1;rw[b4.out,b9.out] at H;exact H⟩
     have o5:=x4x (b:=false) (j:=(j+1)) k6 n3 L.sc L.k8.cell a4.out L.gs.size HV.out.n1 (by have:=HV.out.n2;omega);rw[b4.out] at o5;have m4:IntKind.i64.wrap ((j:Int)+1)=(j:Int)+1:=by rw[IntKind.wrap_i64];have:=HM.out;omega
     rw[show (((j+1:Nat)):Int)=(j:Int)+1 by omega] at o5;have E5:=qh o5;clear o5;have h9:=qh L;clear L l;have A4:=qh n3;clear n3 I;have y3:=qh F4;clear F4 J;have y8:=qh x5;clear x5 a2 i4;refine z0g (fun T=>T.cell? ⟨c8,0,none⟩=some (.pointer (some ⟨o,0,none⟩))/\T.cell? ⟨jb,0,none⟩=some (.int .i64 (j:Int))/\T.cell? ⟨g,j,none⟩=some (.slice (some ⟨rv,0,none⟩) D.n D.n)) 11 (by kernel_rfl) ?_;rw[<- uu4];clear uu4;refine z0c.tm 0 e9 ?_;refine z0c.tm 1 e9 ?_;refine z0c.tm 2 e9 ?_;refine z0c.tm 3 e9 ?_;refine z0c.tm 4 e9 ?_;refine z0c.tm 6 e9 ?_;refine z0c.tm 7 e9 ?_;refine z0c.tm 8 e9 ?_;refine z0c.tm 9 e9 ?_;refine z0c.tm 10 e9 ?_
     try simp only[Act.put,tryL]
     refine z0c.on 5 fun K U=>?_;go_simp;refine E5.out.mono ?_;rintro r g8 ⟨Ra,A6,rfl,Z,f4,k,hf⟩;have F:∀ q cs t fr,k6.heap[q]?=some (.cells cs t fr)->t≠102->¬ (q=gg false):=fun q cs t fr H h2 e=>A4.out.gne_of H h2 false e.symm;have c:=h9.out.kept hf (F o _ _ _ h9.out.sc (by decide)) (F c8 _ _ _ h9.out.k8 (by decide)) (F xb _ _ _ h9.out.kx (by decide)) (F yb _ _ _ h9.out.ky (by decide)) (fun q e=>by rw[e];exact A4.out.low false);have B:=y3.out.kept hf (F ib _ _ _ y3.out (by decide));have z:=y8.out.kept hf (F jb _ _ _ y8.out (by decide));have Y:¬ (false=false/\j=(j+1)):=fun e=>by have:=e.2;omega
     have E:Ra false j=some rv:=(f4 false j Y).trans b9.out;have Q:(updV s1.1 false (j+1) ((s1.1 false (j+1)).getD z1c)) false j=some v:=(y7k Y).trans o6.out;have G:=k.row false j rv v a1 E Q;have d:=k.row false (j+1) A6 ((s1.1 false (j+1)).getD z1c) a4.out Z (z6w _ _ _ _);have b6:o≠A6:=(z0f d.1 (show g8.heap[o]?=_ from c.sc) (by decide)).symm;have b7:rv≠o:=z0f G.1 (show g8.heap[o]?=_ from c.sc) (by decide);have f2:rv≠A6:=fun e=>Y (k.sep false j false (j+1) rv a1 a4.out E (by rw[e];exact Z));have d1:∀ q,smS (((s1.1 false (j+1)).getD z1c) q):=k.sm false (j+1) _ (z6w _ _ _ _);have a6:∀ q,smS (v q):=k.sm false j v Q;have a9:ib≠o:=Bx.ne_scl B c.sc;have b0:jb≠o:=Bx.ne_scl z c.sc;have hP:PWt w o xb yb ib jb (.slice ax na cx) (.slice ay nb cy) i j g8:=⟨c.hb,c.kx,c.ky,B,z,c.nx,c.ny,a9,b0⟩;have lx:=(z0f d.1 c.kx (by decide)).symm;have ly:=(z0f d.1 c.ky (by decide)).symm;have li:=(z0f d.1 B (by decide)).symm;have lj:=(z0f d.1 z (by decide)).symm;have b3:=z9w (nf:=85) (cap:=#[.pointer (some ⟨yb,0,none⟩),.pointer (some ⟨jb,0,none⟩)]) (sel:=sel2 (y j)) (P:=PWt w o xb yb ib jb (.slice ax na cx) (.slice ay nb cy) i j) w g8 HV.out k4.out c.hb i9.out c.sc d.1 G.1 c.lc (Nat.le_trans j1.out d.2) b6 f2 b7 d1 a6 j0.out.aw hP
      (fun wa wb hp hf=>hp.fr hf c.lc (Nat.le_trans j1.out d.2) lx ly li lj) (tst2 HY.out k5)
     have A1:g8.cell? ⟨c8,0,none⟩=some (.pointer (some ⟨o,0,none⟩))/\g8.cell? ⟨jb,0,none⟩=some (.int .i64 (j:Int))/\g8.cell? ⟨g,j,none⟩=some (.slice (some ⟨rv,0,none⟩) D.n D.n) :=
      ⟨c.k8.cell,z.cell,by have H:=(k.top false).cell a1;rw[b4.out,E] at H;exact H⟩
     have d0:∀ b,gg b≠o:=fun b=>k.gne_of (show g8.heap[o]?=_ from c.sc) (by decide) b;have d3:∀ b j r,j<m->Ra b j=some r->r≠o:=fun b j r H h2=>k.rne_of (show g8.heap[o]?=_ from c.sc) (by decide) H h2;have H6:=a6;have e8:∀ (N:World) (lz:N.rowIs A6 9 D.n (fun q=>.string ((z2v D (sel2 (y j)) v D.n ((s1.1 false (j+1)).getD z1c,s1.2)).1 q))),Fr (fun q=>q=o\/q=A6) g8 N->Scl N o D (.slice a D.n cap) e6 (z2v D (sel2 (y j)) v D.n ((s1.1 false (j+1)).getD z1c,s1.2)).2 ->
       VR N w6.heap.size gg m D.n Ra (z2z D false (j+1) (sel2 (y j)) v s1).1/\WG w w6 N o c8 xb yb D (.slice a D.n cap) e6 (.slice ax na cx) (.slice ay nb cy) (z2z D false (j+1) (sel2 (y j)) v s1).2/\Bx N ib 3 (.int .i64 (i:Int))/\Bx N jb 3 (.int .i64 (j:Int)):=fun N lz fz sz=>by
      have H:=k.step2 a4.out Z fz d0 d3 lz (z5u a6 D.n d1);rw[z8e] at H;exact⟨H,c.stepped fz sz d.1 d.2,B.kept fz (fun e=>e.elim a9 li),z.kept fz (fun e=>e.elim b0 lj)⟩
     have r6:=qh b3;clear b3;have F9:=qh e8;clear e8;have b9:=qh E;clear E;have X:(z2z D false (j+1) (sel2 (y j)) v s1).1 false j=some v:=(y0n Y).trans o6.out;clear H6 F c B z Q G d b6 b7 f2 d1 a6 a9 b0 hP lx ly li lj d0 d3 hf k f4 Z Y;have B8:=A1;refine U.out _ _ (.inr A1) ?_;clear U K
     try simp only[Act.put,tryL]
     refine z0c.on 11 fun K U=>?_;go_simp;refine r6.out.mono ?_;rintro r wt ⟨rfl,f3,a5,c7⟩;obtain⟨k,c,B,z⟩:=F9.out wt f3 c7 a5;refine U.out _ _ (.inl rfl) (z0c.dn ?_);clear U K B8 m4 f3 c7 a5 r6 F9 E5 e9 A1 A4 h9 y3 y8;obtain⟨s2,a5⟩:=exq (z2z D false (j+1) (sel2 (y j)) v s1);rw[<- a5] at k c X;have B0:=qh a5;clear a5;have s5:=qh X;clear X;have I:=qh k;clear k;have l:=qh c;clear c;have J:=qh B;clear B;have a2:=qh z;clear z;by_cases d5:i<na
     ·have j5:(i:Int)<(na:Int):=by omega
      have ci:=J.out.cell;have cj:=a2.out.cell;have b1:=l.out.kx.cell;have a8:=l.out.ky.cell
      go_wp2_with fail
      clear ci cj b1 a8;have a4:=qh (show j<m by have:=HM.out;omega);have i5:Fr (fun _=>False) wt wt.drew:=(Fr.refl _ _).drew;obtain⟨k7,uu7⟩:=exq (wt.drew);rw[<- uu7] at i5;have h0:=l.out.kept i5 (fun e=>e) (fun e=>e) (fun e=>e) (fun e=>e) (fun _ e=>e.elim);have p0:=I.out.kept i5 (fun _ e=>e) (fun _ _ _ _ _ e=>e);have G0:=J.out.kept i5 (fun e=>e);have uu5:=a2.out.kept i5 (fun e=>e);have g6:k7.cell? ⟨c8,0,none⟩=some (.pointer (some ⟨o,0,none⟩))/\k7.cell? ⟨jb,0,none⟩=some (.int .i64 (j:Int))/\k7.cell? ⟨g,j,none⟩=some (.slice (some ⟨rv,0,none⟩) D.n D.n) :=
       ⟨h0.k8.cell,uu5.cell,by have H:=(p0.top false).cell a1;rw[b4.out,b9.out] at H;exact H⟩
      have y6:=x4x (b:=true) (j:=j) k7 p0 h0.sc h0.k8.cell a4.out h0.gs.size HV.out.n1 (by have:=HV.out.n2;omega);rw[p9.out] at y6;have m4:=HV.out;have G1:=qh y6;clear y6;have i6:=qh h0;clear h0 l;have x6:=qh p0;clear p0 I;have y4:=qh G0;clear G0 J;have A0:=qh uu5;clear uu5 a2 i5;refine z0g (fun T=>T.cell? ⟨c8,0,none⟩=some (.pointer (some ⟨o,0,none⟩))/\T.cell? ⟨jb,0,none⟩=some (.int .i64 (j:Int))/\T.cell? ⟨g,j,none⟩=some (.slice (some ⟨rv,0,none⟩) D.n D.n)) 10 (by kernel_rfl) ?_;rw[<- uu7];clear uu7;refine z0c.tm 0 g6 ?_;refine z0c.tm 1 g6 ?_;refine z0c.tm 2 g6 ?_;refine z0c.tm 3 g6 ?_;refine z0c.tm 5 g6 ?_;refine z0c.tm 6 g6 ?_;refine z0c.tm 7 g6 ?_;refine z0c.tm 8 g6 ?_;refine z0c.tm 9 g6 ?_
      try simp only[Act.put,tryL]
      refine z0c.on 4 fun K U=>?_;go_simp;refine G1.out.mono ?_;rintro r g7 ⟨Rb,t8,rfl,Z,f4,k,hf⟩;have F:∀ q cs t fr,k7.heap[q]?=some (.cells cs t fr)->t≠102->¬ (q=gg true):=fun q cs t fr H h2 e=>x6.out.gne_of H h2 true e.symm;have c:=i6.out.kept hf (F o _ _ _ i6.out.sc (by decide)) (F c8 _ _ _ i6.out.k8 (by decide)) (F xb _ _ _ i6.out.kx (by decide)) (F yb _ _ _ i6.out.ky (by decide)) (fun q e=>by rw[e];exact x6.out.low true);have B:=y4.out.kept hf (F ib _ _ _ y4.out (by decide));have z:=A0.out.kept hf (F jb _ _ _ A0.out (by decide));have Y:¬ (false=true/\j=j):=fun e=>by cases e.1
      have E:Rb false j=some rv:=(f4 false j Y).trans b9.out;have Q:(updV s2.1 true j ((s2.1 true j).getD z1c)) false j=some v:=(y7k Y).trans s5.out;have G:=k.row false j rv v a1 E Q;have d:=k.row true j t8 ((s2.1 true j).getD z1c) a4.out Z (z6w _ _ _ _);have b6:o≠t8:=(z0f d.1 (show g7.heap[o]?=_ from c.sc) (by decide)).symm;have b7:rv≠o:=z0f G.1 (show g7.heap[o]?=_ from c.sc) (by decide);have f2:rv≠t8:=fun e=>Y (k.sep false j true j rv a1 a4.out E (by rw[e];exact Z));have d1:∀ q,smS (((s2.1 true j).getD z1c) q):=k.sm true j _ (z6w _ _ _ _);have a6:∀ q,smS (v q):=k.sm false j v Q;have a9:ib≠o:=Bx.ne_scl B c.sc;have b0:jb≠o:=Bx.ne_scl z c.sc;have hP:PWt w o xb yb ib jb (.slice ax na cx) (.slice ay nb cy) i j g7:=⟨c.hb,c.kx,c.ky,B,z,c.nx,c.ny,a9,b0⟩;have lx:=(z0f d.1 c.kx (by decide)).symm;have ly:=(z0f d.1 c.ky (by decide)).symm;have li:=(z0f d.1 B (by decide)).symm;have lj:=(z0f d.1 z (by decide)).symm;have b3:=z9w (nf:=86) (cap:=#[.pointer (some ⟨xb,0,none⟩),.pointer (some ⟨ib,0,none⟩)]) (sel:=sel3 (x i)) (P:=PWt w o xb yb ib jb (.slice ax na cx) (.slice ay nb cy) i j) w g7 HV.out k4.out c.hb i9.out c.sc d.1 G.1 c.lc (Nat.le_trans j1.out d.2) b6 f2 b7 d1 a6 j0.out.aw hP
       (fun wa wb hp hf=>hp.fr hf c.lc (Nat.le_trans j1.out d.2) lx ly li lj) (tst3 HX.out d5)
      have z7:g7.cell? ⟨c8,0,none⟩=some (.pointer (some ⟨o,0,none⟩))/\g7.cell? ⟨jb,0,none⟩=some (.int .i64 (j:Int))/\g7.cell? ⟨g,j,none⟩=some (.slice (some ⟨rv,0,none⟩) D.n D.n) :=
       ⟨c.k8.cell,z.cell,by have H:=(k.top false).cell a1;rw[b4.out,E] at H;exact H⟩
      have d0:∀ b,gg b≠o:=fun b=>k.gne_of (show g7.heap[o]?=_ from c.sc) (by decide) b;have d3:∀ b j r,j<m->Rb b j=some r->r≠o:=fun b j r H h2=>k.rne_of (show g7.heap[o]?=_ from c.sc) (by decide) H h2;have H0:=a6;have e8:∀ (N:World) (lz:N.rowIs t8 9 D.n (fun q=>.string ((z2v D (sel3 (x i)) v D.n ((s2.1 true j).getD z1c,s2.2)).1 q))),Fr (fun q=>q=o\/q=t8) g7 N->Scl N o D (.slice a D.n cap) e6 (z2v D (sel3 (x i)) v D.n ((s2.1 true j).getD z1c,s2.2)).2 ->
        VR N w6.heap.size gg m D.n Rb (z2z D true j (sel3 (x i)) v s2).1/\WG w w6 N o c8 xb yb D (.slice a D.n cap) e6 (.slice ax na cx) (.slice ay nb cy) (z2z D true j (sel3 (x i)) v s2).2/\Bx N ib 3 (.int .i64 (i:Int))/\Bx N jb 3 (.int .i64 (j:Int)):=fun N lz fz sz=>by
       have H:=k.step2 a4.out Z fz d0 d3 lz (z5u a6 D.n d1);rw[z8e] at H;exact⟨H,c.stepped fz sz d.1 d.2,B.kept fz (fun e=>e.elim a9 li),z.kept fz (fun e=>e.elim b0 lj)⟩
      have uu6:=qh b3;clear b3;have E1:=qh e8;clear e8;have b9:=qh E;clear E;have X:(z2z D true j (sel3 (x i)) v s2).1 false j=some v:=(y0n Y).trans s5.out;clear H0 F c B z Q G d b6 b7 f2 d1 a6 a9 b0 hP lx ly li lj d0 d3 hf k f4 Z Y;have B2:=z7;refine U.out _ _ (.inr z7) ?_;clear U K
      try simp only[Act.put,tryL]
      refine z0c.on 10 fun K U=>?_;go_simp;refine uu6.out.mono ?_;rintro r wu ⟨rfl,f3,a5,c7⟩;obtain⟨k,c,B,z⟩:=E1.out wu f3 c7 a5;refine U.out _ _ (.inl rfl) (z0c.dn ?_);clear U K B2 m4 f3 c7 a5 uu6 E1 G1 g6 z7 x6 i6 y4 A0;obtain⟨s3,I5⟩:=exq (z2z D true j (sel3 (x i)) v s2);rw[<- I5] at k c X;have M1:=qh I5;clear I5;have F7:=qh X;clear X;have I:=qh k;clear k;have l:=qh c;clear c;have J:=qh B;clear B;have a2:=qh z;clear z;have ci:=J.out.cell;have cj:=a2.out.cell;have b1:=l.out.kx.cell;have a8:=l.out.ky.cell
      go_wp2_with fail
      clear ci cj b1 a8;have a4:=qh (show (j+1)<m by have:=HM.out;omega);have h3:Fr (fun _=>False) wu wu.drew:=(Fr.refl _ _).drew;obtain⟨l0,A7⟩:=exq (wu.drew);rw[<- A7] at h3;have h6:=l.out.kept h3 (fun e=>e) (fun e=>e) (fun e=>e) (fun e=>e) (fun _ e=>e.elim);have o3:=I.out.kept h3 (fun _ e=>e) (fun _ _ _ _ _ e=>e);have E3:=J.out.kept h3 (fun e=>e);have s7:=a2.out.kept h3 (fun e=>e);have f8:l0.cell? ⟨c8,0,none⟩=some (.pointer (some ⟨o,0,none⟩))/\l0.cell? ⟨jb,0,none⟩=some (.int .i64 (j:Int))/\l0.cell? ⟨g,j,none⟩=some (.slice (some ⟨rv,0,none⟩) D.n D.n) :=
       ⟨h6.k8.cell,s7.cell,by have H:=(o3.top false).cell a1;rw[b4.out,b9.out] at H;exact H⟩
      have o4:=x4x (b:=true) (j:=(j+1)) l0 o3 h6.sc h6.k8.cell a4.out h6.gs.size HV.out.n1 (by have:=HV.out.n2;omega);rw[p9.out] at o4;have m4:IntKind.i64.wrap ((j:Int)+1)=(j:Int)+1:=by rw[IntKind.wrap_i64];have:=HM.out;omega
      rw[show (((j+1:Nat)):Int)=(j:Int)+1 by omega] at o4;have D3:=qh o4;clear o4;have h5:=qh h6;clear h6 l;have x9:=qh o3;clear o3 I;have r3:=qh E3;clear E3 J;have r9:=qh s7;clear s7 a2 h3;refine z0g (fun T=>T.cell? ⟨c8,0,none⟩=some (.pointer (some ⟨o,0,none⟩))/\T.cell? ⟨jb,0,none⟩=some (.int .i64 (j:Int))/\T.cell? ⟨g,j,none⟩=some (.slice (some ⟨rv,0,none⟩) D.n D.n)) 11 (by kernel_rfl) ?_;rw[<- A7];clear A7;refine z0c.tm 0 f8 ?_;refine z0c.tm 1 f8 ?_;refine z0c.tm 2 f8 ?_;refine z0c.tm 3 f8 ?_;refine z0c.tm 4 f8 ?_;refine z0c.tm 6 f8 ?_;refine z0c.tm 7 f8 ?_;refine z0c.tm 8 f8 ?_;refine z0c.tm 9 f8 ?_;refine z0c.tm 10 f8 ?_
      try simp only[Act.put,tryL]
      refine z0c.on 5 fun K U=>?_;go_simp;refine D3.out.mono ?_;rintro r g4 ⟨Rc,r5,rfl,Z,f4,k,hf⟩;have F:∀ q cs t fr,l0.heap[q]?=some (.cells cs t fr)->t≠102->¬ (q=gg true):=fun q cs t fr H h2 e=>x9.out.gne_of H h2 true e.symm;have c:=h5.out.kept hf (F o _ _ _ h5.out.sc (by decide)) (F c8 _ _ _ h5.out.k8 (by decide)) (F xb _ _ _ h5.out.kx (by decide)) (F yb _ _ _ h5.out.ky (by decide)) (fun q e=>by rw[e];exact x9.out.low true);have B:=r3.out.kept hf (F ib _ _ _ r3.out (by decide));have z:=r9.out.kept hf (F jb _ _ _ r9.out (by decide));have Y:¬ (false=true/\j=(j+1)):=fun e=>by cases e.1
      have E:Rc false j=some rv:=(f4 false j Y).trans b9.out;have Q:(updV s3.1 true (j+1) ((s3.1 true (j+1)).getD z1c)) false j=some v:=(y7k Y).trans F7.out;have G:=k.row false j rv v a1 E Q;have d:=k.row true (j+1) r5 ((s3.1 true (j+1)).getD z1c) a4.out Z (z6w _ _ _ _);have b6:o≠r5:=(z0f d.1 (show g4.heap[o]?=_ from c.sc) (by decide)).symm;have b7:rv≠o:=z0f G.1 (show g4.heap[o]?=_ from c.sc) (by decide);have f2:rv≠r5:=fun e=>Y (k.sep false j true (j+1) rv a1 a4.out E (by rw[e];exact Z));have d1:∀ q,smS (((s3.1 true (j+1)).getD z1c) q):=k.sm true (j+1) _ (z6w _ _ _ _);have a6:∀ q,smS (v q):=k.sm false j v Q;have a9:ib≠o:=Bx.ne_scl B c.sc;have b0:jb≠o:=Bx.ne_scl z c.sc;have hP:PWt w o xb yb ib jb (.slice ax na cx) (.slice ay nb cy) i j g4:=⟨c.hb,c.kx,c.ky,B,z,c.nx,c.ny,a9,b0⟩;have lx:=(z0f d.1 c.kx (by decide)).symm;have ly:=(z0f d.1 c.ky (by decide)).symm;have li:=(z0f d.1 B (by decide)).symm;have lj:=(z0f d.1 z (by decide)).symm;have b3:=z9w (nf:=87) (cap:=#[.pointer (some ⟨xb,0,none⟩),.pointer (some ⟨ib,0,none⟩),.pointer (some ⟨yb,0,none⟩),.pointer (some ⟨jb,0,none⟩)]) (sel:=sel4 (x i) (y j)) (P:=PWt w o xb yb ib jb (.slice ax na cx) (.slice ay nb cy) i j) w g4 HV.out k4.out c.hb i9.out c.sc d.1 G.1 c.lc (Nat.le_trans j1.out d.2) b6 f2 b7 d1 a6 j0.out.aw hP
       (fun wa wb hp hf=>hp.fr hf c.lc (Nat.le_trans j1.out d.2) lx ly li lj) (tst4 HX.out d5 HY.out k5)
      have z5:g4.cell? ⟨c8,0,none⟩=some (.pointer (some ⟨o,0,none⟩))/\g4.cell? ⟨jb,0,none⟩=some (.int .i64 (j:Int))/\g4.cell? ⟨g,j,none⟩=some (.slice (some ⟨rv,0,none⟩) D.n D.n) :=
       ⟨c.k8.cell,z.cell,by have H:=(k.top false).cell a1;rw[b4.out,E] at H;exact H⟩
      have d0:∀ b,gg b≠o:=fun b=>k.gne_of (show g4.heap[o]?=_ from c.sc) (by decide) b;have d3:∀ b j r,j<m->Rc b j=some r->r≠o:=fun b j r H h2=>k.rne_of (show g4.heap[o]?=_ from c.sc) (by decide) H h2;have H3:=a6;have e8:∀ (N:World) (lz:N.rowIs r5 9 D.n (fun q=>.string ((z2v D (sel4 (x i) (y j)) v D.n ((s3.1 true (j+1)).getD z1c,s3.2)).1 q))),Fr (fun q=>q=o\/q=r5) g4 N->Scl N o D (.slice a D.n cap) e6 (z2v D (sel4 (x i) (y j)) v D.n ((s3.1 true (j+1)).getD z1c,s3.2)).2 ->
        VR N w6.heap.size gg m D.n Rc (z2z D true (j+1) (sel4 (x i) (y j)) v s3).1/\WG w w6 N o c8 xb yb D (.slice a D.n cap) e6 (.slice ax na cx) (.slice ay nb cy) (z2z D true (j+1) (sel4 (x i) (y j)) v s3).2/\Bx N ib 3 (.int .i64 (i:Int))/\Bx N jb 3 (.int .i64 (j:Int)):=fun N lz fz sz=>by
       have H:=k.step2 a4.out Z fz d0 d3 lz (z5u a6 D.n d1);rw[z8e] at H;exact⟨H,c.stepped fz sz d.1 d.2,B.kept fz (fun e=>e.elim a9 li),z.kept fz (fun e=>e.elim b0 lj)⟩
      have x2:=qh b3;clear b3;have C7:=qh e8;clear e8;have b9:=qh E;clear E;have X:(z2z D true (j+1) (sel4 (x i) (y j)) v s3).1 false j=some v:=(y0n Y).trans F7.out;clear H3 F c B z Q G d b6 b7 f2 d1 a6 a9 b0 hP lx ly li lj d0 d3 hf k f4 Z Y;have C5:=z5;refine U.out _ _ (.inr z5) ?_;clear U K
      try simp only[Act.put,tryL]
      refine z0c.on 11 fun K U=>?_;go_simp;refine x2.out.mono ?_;rintro r wv ⟨rfl,f3,a5,c7⟩;obtain⟨k,c,B,z⟩:=C7.out wv f3 c7 a5;refine U.out _ _ (.inl rfl) (z0c.dn ?_);clear U K C5 m4 f3 c7 a5 x2 C7 D3 f8 z5 x9 h5 r3 r9;obtain⟨s4,J0⟩:=exq (z2z D true (j+1) (sel4 (x i) (y j)) v s3);rw[<- J0] at k c X;have M9:=qh J0;clear J0;have N4:=qh X;clear X;have I:=qh k;clear k;have l:=qh c;clear c;have J:=qh B;clear B;have a2:=qh z;clear z;have ci:=J.out.cell;have cj:=a2.out.cell;have b1:=l.out.kx.cell;have a8:=l.out.ky.cell
      go_wp2_with fail
      clear ci cj b1 a8;go_roundw
      case rel=>exact⟨j+1,_,s4,by have:=g5.out;omega,by go_num,by rw[e2.out];unfold cell1 cell2 cell3;rw[if_pos k5,if_pos d5,if_pos ⟨d5,k5⟩,M9.out,M1.out,B0.out],I.out,l.out,J.out⟩
      simp[intOf];have:=g5.out;omega
     have j5:¬ ((i:Int)<(na:Int)):=by omega
     have ci:=J.out.cell;have cj:=a2.out.cell;have b1:=l.out.kx.cell;have a8:=l.out.ky.cell
     go_wp2_with fail
     clear ci cj b1 a8;go_roundw
     case rel=>exact⟨j+1,_,s2,by have:=g5.out;omega,by go_num,by rw[e2.out];unfold cell1 cell2 cell3;rw[if_pos k5,if_neg d5,if_neg (fun h=>d5 h.1),B0.out],I.out,l.out,J.out⟩
     simp[intOf];have:=g5.out;omega
    have K0:¬ ((j:Int)<(nb:Int)):=by omega
    by_cases d5:i<na
    ·have j5:(i:Int)<(na:Int):=by omega
     have ci:=J.out.cell;have cj:=a2.out.cell;have b1:=l.out.kx.cell;have a8:=l.out.ky.cell
     go_wp2_with fail
     clear ci cj b1 a8;have a4:=qh (show j<m by have:=HM.out;omega);have i2:Fr (fun _=>False) ws ws.drew:=(Fr.refl _ _).drew;obtain⟨l2,v2⟩:=exq (ws.drew);rw[<- v2] at i2;have u:=l.out.kept i2 (fun e=>e) (fun e=>e) (fun e=>e) (fun e=>e) (fun _ e=>e.elim);have a7:=I.out.kept i2 (fun _ e=>e) (fun _ _ _ _ _ e=>e);have j6:=J.out.kept i2 (fun e=>e);have f7:=a2.out.kept i2 (fun e=>e);have g9:l2.cell? ⟨c8,0,none⟩=some (.pointer (some ⟨o,0,none⟩))/\l2.cell? ⟨jb,0,none⟩=some (.int .i64 (j:Int))/\l2.cell? ⟨g,j,none⟩=some (.slice (some ⟨rv,0,none⟩) D.n D.n) :=
      ⟨u.k8.cell,f7.cell,by have H:=(a7.top false).cell a1;rw[b4.out,b9.out] at H;exact H⟩
     have s9:=x4x (b:=true) (j:=j) l2 a7 u.sc u.k8.cell a4.out u.gs.size HV.out.n1 (by have:=HV.out.n2;omega);rw[p9.out] at s9;have m4:=HV.out;have C9:=qh s9;clear s9;have h7:=qh u;clear u l;have uu9:=qh a7;clear a7 I;have w0:=qh j6;clear j6 J;have A9:=qh f7;clear f7 a2 i2;refine z0g (fun T=>T.cell? ⟨c8,0,none⟩=some (.pointer (some ⟨o,0,none⟩))/\T.cell? ⟨jb,0,none⟩=some (.int .i64 (j:Int))/\T.cell? ⟨g,j,none⟩=some (.slice (some ⟨rv,0,none⟩) D.n D.n)) 10 (by kernel_rfl) ?_;rw[<- v2];clear v2;refine z0c.tm 0 g9 ?_;refine z0c.tm 1 g9 ?_;refine z0c.tm 2 g9 ?_;refine z0c.tm 3 g9 ?_;refine z0c.tm 5 g9 ?_;refine z0c.tm 6 g9 ?_;refine z0c.tm 7 g9 ?_;refine z0c.tm 8 g9 ?_;refine z0c.tm 9 g9 ?_
     try simp only[Act.put,tryL]
     refine z0c.on 4 fun K U=>?_;go_simp;refine C9.out.mono ?_;rintro r g3 ⟨Rd,z1,rfl,Z,f4,k,hf⟩;have F:∀ q cs t fr,l2.heap[q]?=some (.cells cs t fr)->t≠102->¬ (q=gg true):=fun q cs t fr H h2 e=>uu9.out.gne_of H h2 true e.symm;have c:=h7.out.kept hf (F o _ _ _ h7.out.sc (by decide)) (F c8 _ _ _ h7.out.k8 (by decide)) (F xb _ _ _ h7.out.kx (by decide)) (F yb _ _ _ h7.out.ky (by decide)) (fun q e=>by rw[e];exact uu9.out.low true);have B:=w0.out.kept hf (F ib _ _ _ w0.out (by decide));have z:=A9.out.kept hf (F jb _ _ _ A9.out (by decide));have Y:¬ (false=true/\j=j):=fun e=>by cases e.1
     have E:Rd false j=some rv:=(f4 false j Y).trans b9.out;have Q:(updV s1.1 true j ((s1.1 true j).getD z1c)) false j=some v:=(y7k Y).trans o6.out;have G:=k.row false j rv v a1 E Q;have d:=k.row true j z1 ((s1.1 true j).getD z1c) a4.out Z (z6w _ _ _ _);have b6:o≠z1:=(z0f d.1 (show g3.heap[o]?=_ from c.sc) (by decide)).symm;have b7:rv≠o:=z0f G.1 (show g3.heap[o]?=_ from c.sc) (by decide);have f2:rv≠z1:=fun e=>Y (k.sep false j true j rv a1 a4.out E (by rw[e];exact Z));have d1:∀ q,smS (((s1.1 true j).getD z1c) q):=k.sm true j _ (z6w _ _ _ _);have a6:∀ q,smS (v q):=k.sm false j v Q;have a9:ib≠o:=Bx.ne_scl B c.sc;have b0:jb≠o:=Bx.ne_scl z c.sc;have hP:PWt w o xb yb ib jb (.slice ax na cx) (.slice ay nb cy) i j g3:=⟨c.hb,c.kx,c.ky,B,z,c.nx,c.ny,a9,b0⟩;have lx:=(z0f d.1 c.kx (by decide)).symm;have ly:=(z0f d.1 c.ky (by decide)).symm;have li:=(z0f d.1 B (by decide)).symm;have lj:=(z0f d.1 z (by decide)).symm;have b3:=z9w (nf:=86) (cap:=#[.pointer (some ⟨xb,0,none⟩),.pointer (some ⟨ib,0,none⟩)]) (sel:=sel3 (x i)) (P:=PWt w o xb yb ib jb (.slice ax na cx) (.slice ay nb cy) i j) w g3 HV.out k4.out c.hb i9.out c.sc d.1 G.1 c.lc (Nat.le_trans j1.out d.2) b6 f2 b7 d1 a6 j0.out.aw hP
      (fun wa wb hp hf=>hp.fr hf c.lc (Nat.le_trans j1.out d.2) lx ly li lj) (tst3 HX.out d5)
     have y5:g3.cell? ⟨c8,0,none⟩=some (.pointer (some ⟨o,0,none⟩))/\g3.cell? ⟨jb,0,none⟩=some (.int .i64 (j:Int))/\g3.cell? ⟨g,j,none⟩=some (.slice (some ⟨rv,0,none⟩) D.n D.n) :=
      ⟨c.k8.cell,z.cell,by have H:=(k.top false).cell a1;rw[b4.out,E] at H;exact H⟩
     have d0:∀ b,gg b≠o:=fun b=>k.gne_of (show g3.heap[o]?=_ from c.sc) (by decide) b;have d3:∀ b j r,j<m->Rd b j=some r->r≠o:=fun b j r H h2=>k.rne_of (show g3.heap[o]?=_ from c.sc) (by decide) H h2;have G7:=a6;have e8:∀ (N:World) (lz:N.rowIs z1 9 D.n (fun q=>.string ((z2v D (sel3 (x i)) v D.n ((s1.1 true j).getD z1c,s1.2)).1 q))),Fr (fun q=>q=o\/q=z1) g3 N->Scl N o D (.slice a D.n cap) e6 (z2v D (sel3 (x i)) v D.n ((s1.1 true j).getD z1c,s1.2)).2 ->
       VR N w6.heap.size gg m D.n Rd (z2z D true j (sel3 (x i)) v s1).1/\WG w w6 N o c8 xb yb D (.slice a D.n cap) e6 (.slice ax na cx) (.slice ay nb cy) (z2z D true j (sel3 (x i)) v s1).2/\Bx N ib 3 (.int .i64 (i:Int))/\Bx N jb 3 (.int .i64 (j:Int)):=fun N lz fz sz=>by
      have H:=k.step2 a4.out Z fz d0 d3 lz (z5u a6 D.n d1);rw[z8e] at H;exact⟨H,c.stepped fz sz d.1 d.2,B.kept fz (fun e=>e.elim a9 li),z.kept fz (fun e=>e.elim b0 lj)⟩
     have v0:=qh b3;clear b3;have F5:=qh e8;clear e8;have b9:=qh E;clear E;have X:(z2z D true j (sel3 (x i)) v s1).1 false j=some v:=(y0n Y).trans o6.out;clear G7 F c B z Q G d b6 b7 f2 d1 a6 a9 b0 hP lx ly li lj d0 d3 hf k f4 Z Y;have B5:=y5;refine U.out _ _ (.inr y5) ?_;clear U K
     try simp only[Act.put,tryL]
     refine z0c.on 10 fun K U=>?_;go_simp;refine v0.out.mono ?_;rintro r wt ⟨rfl,f3,a5,c7⟩;obtain⟨k,c,B,z⟩:=F5.out wt f3 c7 a5;refine U.out _ _ (.inl rfl) (z0c.dn ?_);clear U K B5 m4 f3 c7 a5 v0 F5 C9 g9 y5 uu9 h7 w0 A9;obtain⟨s2,a5⟩:=exq (z2z D true j (sel3 (x i)) v s1);rw[<- a5] at k c X;have B0:=qh a5;clear a5;have s5:=qh X;clear X;have I:=qh k;clear k;have l:=qh c;clear c;have J:=qh B;clear B;have a2:=qh z;clear z;have ci:=J.out.cell;have cj:=a2.out.cell;have b1:=l.out.kx.cell;have a8:=l.out.ky.cell
     go_wp2_with fail
     clear ci cj b1 a8;go_roundw
     case rel=>exact⟨j+1,_,s2,by have:=g5.out;omega,by go_num,by rw[e2.out];unfold cell1 cell2 cell3;rw[if_neg k5,if_pos d5,if_neg (fun h=>k5 h.2),B0.out],I.out,l.out,J.out⟩
     simp[intOf];have:=g5.out;omega
    have j5:¬ ((i:Int)<(na:Int)):=by omega
    have ci:=J.out.cell;have cj:=a2.out.cell;have b1:=l.out.kx.cell;have a8:=l.out.ky.cell
    go_wp2_with fail
    clear ci cj b1 a8;go_roundw
    case rel=>exact⟨j+1,_,s1,by have:=g5.out;omega,by go_num,by rw[e2.out];unfold cell1 cell2 cell3;rw[if_neg k5,if_neg d5,if_neg (fun h=>d5 h.1)],I.out,l.out,J.out⟩
    simp[intOf];have:=g5.out;omega
  have J6:j=m:=by omega
  obtain⟨s1,rfl⟩:=exq (sp);obtain⟨R,rfl⟩:=exq (Rp);have O4:¬ ((j:Int)<(m:Int)):=by omega
  have I2:nb<m:=by have:=HM.out;omega
  have O2:(nb:Int)<(m:Int):=by omega
  have N3:(0:Int)<=(nb:Int):=by omega
  subst J6;have hk:na+1-i=(na-i)+1:=by omega
  have c9:=B1.out;rw[hk] at c9;unfold outG at c9;rw[if_neg (by simp),<- J5.out,<- HM.out,<- B9.out] at c9;clear hk B1;have ci:=J.out.cell;have b1:=l.out.kx.cell;have a8:=l.out.ky.cell;have hg:=(I.out.top false).cell I2;rw[b4.out] at hg;cases hf:s1.1 false nb with
  | none =>
   have hr:=(I.out.non false nb I2).2 hf;rw[hr] at hg;have l8:wr.cell? ⟨g,nb,none⟩=some (.slice none 0 0):=hg;have hq:=fun w=>v0x 102 9 underlying102 w none 0 0;rw[show (!(none:Option Addr).isNone)=false from rfl] at hq;rw[if_neg (fun h=>by rw[hf] at h;cases h.2)] at c9;have j7:=qh c9;clear c9 hf hr hg;by_cases j3:i=na
   ·have F1:na=i:=j3.symm;rw[F1] at j7;subst F1;obtain⟨d7,b5⟩:=exq (wr.heap.size);obtain⟨N,d8⟩:=exq (wr.alloc (.cells #[.int .i64 ((na:Int)+1)] 3));have a3:Fr (fun _=>False) wr N:=by rw[d8];exact Fr.alloc wr _
    have j2:Bx N d7 3 (.int .i64 ((na+1:Nat):Int)):=by rw[d8,b5];exact heap_alloc_new wr _
    have k3:=qh (l.out.kept a3 (fun e=>e) (fun e=>e) (fun e=>e) (fun e=>e) (fun _ e=>e.elim));have f9:=(I.out.one true).kept a3;rw[p9.out] at f9;have k2:=qh f9;clear f9;have j9:=qh j2;clear j2 a3
    go_wp2_with fail
    rw[<- d8,<- b5];clear d8 b5;go_roundw
    case rel=>exact⟨na+1,s1.2,g2,d7,_,_,by omega,rfl,rfl,j9.out,k2.out,k3.out,by rw[show na+1-(na+1)=na-na by omega];exact j7.out⟩
    rw[y1m j9.out.cell,HI.out];omega
   have K7:¬ ((i:Int)=(na:Int)):=by omega
   obtain⟨d7,b5⟩:=exq (wr.heap.size);obtain⟨N,d8⟩:=exq (wr.alloc (.cells #[.int .i64 ((i:Int)+1)] 3));have a3:Fr (fun _=>False) wr N:=by rw[d8];exact Fr.alloc wr _
   have j2:Bx N d7 3 (.int .i64 ((i+1:Nat):Int)):=by rw[d8,b5];exact heap_alloc_new wr _
   have k3:=qh (l.out.kept a3 (fun e=>e) (fun e=>e) (fun e=>e) (fun e=>e) (fun _ e=>e.elim));have f9:=(I.out.one true).kept a3;rw[p9.out] at f9;have k2:=qh f9;clear f9;have j9:=qh j2;clear j2 a3
   go_wp2_with fail
   rw[<- d8,<- b5];clear d8 b5;go_roundw
   case rel=>exact⟨i+1,s1.2,g2,d7,_,_,by omega,rfl,rfl,j9.out,k2.out,k3.out,by rw[show na+1-(i+1)=na-i by omega];exact j7.out⟩
   rw[y1m j9.out.cell,HI.out];omega
  | some v =>
   obtain⟨rv,l7,G,_⟩:=I.out.some_of I2 hf;rw[l7] at hg;have l8:wr.cell? ⟨g,nb,none⟩=some (.slice (some ⟨rv,0,none⟩) D.n D.n):=hg;have hq:=fun w=>v0x 102 9 underlying102 w (some ⟨rv,0,none⟩) D.n D.n;rw[show (!(some (⟨rv,0,none⟩:Addr)).isNone)=true from rfl] at hq;by_cases j3:i=na
   ·subst j3;rw[if_pos ⟨rfl,by rw[hf];rfl⟩,hf] at c9;have o9:=qh (show wgtG D st e0 i x nb y=finC D v s1.2 from c9.symm);clear c9;have b2:Fr (fun _=>False) wr wr.drew:=(Fr.refl _ _).drew;obtain⟨wd,e3⟩:=exq (wr.drew);rw[<- e3] at b2;have u:=l.out.kept b2 (fun e=>e) (fun e=>e) (fun e=>e) (fun e=>e) (fun _ e=>e.elim);have a7:=I.out.kept b2 (fun _ e=>e) (fun _ _ _ _ _ e=>e);have m5:=b2.row G (fun e=>e);have t9:wd.cell? ⟨g,nb,none⟩=some (.slice (some ⟨rv,0,none⟩) D.n D.n):=b2.cell l8 (fun e=>e);have W:wd.cell? ⟨c8,0,none⟩=some (.pointer (some ⟨o,0,none⟩))/\wd.cell? ⟨yb,0,none⟩=some (.slice ay nb cy)/\wd.cell? ⟨g,nb,none⟩=some (.slice (some ⟨rv,0,none⟩) D.n D.n):=⟨u.k8.cell,u.ky.cell,t9⟩;have q8:=qh (z8k (v:=v) w wd HV.out k4.out u.hb i9.out u.sc m5 u.lc (z0f m5 (show wd.heap[o]?=_ from u.sc) (by decide)) (I.out.sm false nb v hf) j0.out.fin);have M8:=qh u.n8;have M0:=qh u.ny;have M7:=qh (show g≠o by rw[<- b4.out];exact a7.gne_of (show wd.heap[o]?=_ from u.sc) (by decide) false);have l:=qh u;clear u a7 m5 t9 b2;clear hf l7 G hg
    go_wp2_with fail
    refine z0g (fun T=>T.cell? ⟨c8,0,none⟩=some (.pointer (some ⟨o,0,none⟩))/\T.cell? ⟨yb,0,none⟩=some (.slice ay nb cy)/\T.cell? ⟨g,nb,none⟩=some (.slice (some ⟨rv,0,none⟩) D.n D.n)) 10 (by kernel_rfl) ?_;rw[<- e3];clear e3;refine z0c.tm 0 W ?_;refine z0c.tm 1 W ?_;refine z0c.tm 2 W ?_;refine z0c.tm 3 W ?_;refine z0c.tm 4 W ?_;refine z0c.tm 5 W ?_
    try simp only[Act.put,tryL]
    refine z0c.on 6 fun K U=>?_;go_simp;refine q8.out.mono ?_;rintro r wf ⟨rfl,e4⟩;have d2:wf.cell? ⟨c8,0,none⟩=some (.pointer (some ⟨o,0,none⟩))/\wf.cell? ⟨yb,0,none⟩=some (.slice ay nb cy)/\wf.cell? ⟨g,nb,none⟩=some (.slice (some ⟨rv,0,none⟩) D.n D.n) :=
     ⟨e4.cell W.1 M8.out,e4.cell W.2.1 M0.out,e4.cell W.2.2 M7.out⟩
    have uu1:=qh e4;clear e4;refine U.out _ _ (.inr d2) ?_;clear U K
    try simp only[Act.put,tryL]
    refine z0c.tm 7 d2 ?_;refine z0c.tm 8 d2 ?_;refine z0c.tm 9 d2 ?_
    try simp only[Act.put,tryL]
    refine z0c.on 10 fun K U=>?_;go_simp;refine U.out _ _ (.inl rfl) (z0c.dn ?_);clear U K;go_wp2;go_ret2;exact⟨l.out.hb.trans (uu1.out.below l.out.hb.size (fun q e=>by rw[e];exact l.out.lc)),.inl ⟨HV.out,I3.out,I0.out,st,e0,uu2.out,by rw[o9.out];rfl⟩⟩
   have K7:¬ ((i:Int)=(na:Int)):=by omega
   rw[if_neg (fun h=>j3 h.1)] at c9;have j7:=qh c9;clear c9 hf l7 G hg;obtain⟨d7,b5⟩:=exq (wr.heap.size);obtain⟨N,d8⟩:=exq (wr.alloc (.cells #[.int .i64 ((i:Int)+1)] 3));have a3:Fr (fun _=>False) wr N:=by rw[d8];exact Fr.alloc wr _
   have j2:Bx N d7 3 (.int .i64 ((i+1:Nat):Int)):=by rw[d8,b5];exact heap_alloc_new wr _
   have k3:=qh (l.out.kept a3 (fun e=>e) (fun e=>e) (fun e=>e) (fun e=>e) (fun _ e=>e.elim));have f9:=(I.out.one true).kept a3;rw[p9.out] at f9;have k2:=qh f9;clear f9;have j9:=qh j2;clear j2 a3
   go_wp2_with fail
   rw[<- d8,<- b5];clear d8 b5;go_roundw
   case rel=>exact⟨i+1,s1.2,g2,d7,_,_,by omega,rfl,rfl,j9.out,k2.out,k3.out,by rw[show na+1-(i+1)=na-i by omega];exact j7.out⟩
   rw[y1m j9.out.cell,HI.out];omega
 have o9:=qh (show wgtG D st e0 na x nb y=finC D z1c e by
  rw[<- B1.out];by_cases d5:i=na+1
  ·rw[show na+1-i=0 by omega];rfl
  rw[show na+1-i=(na-i)+1 by omega];unfold outG;rw[if_pos (fun h=>j3 ⟨by omega,h⟩)])
 have b2:Fr (fun _=>False) wr wr.drew:=(Fr.refl _ _).drew;obtain⟨wd,e3⟩:=exq (wr.drew);rw[<- e3] at b2;have u:=l.out.kept b2 (fun e=>e) (fun e=>e) (fun e=>e) (fun e=>e) (fun _ e=>e.elim);have W:wd.cell? ⟨c8,0,none⟩=some (.pointer (some ⟨o,0,none⟩)):=u.k8.cell;have J8:=qh (z7j wd u.sc HV.out.n1 (by have:=HV.out.n2;omega));have l:=qh u;clear u b2 B1 I J;by_cases d5:i<=na
 ·have j5:(i:Int)<=(na:Int):=by omega
  have O3:¬ ((e:Int)=0):=by have:=fun h:e=0=>j3 ⟨d5,h⟩;omega
  go_wp2_with fail
  refine z0g (fun T=>T.cell? ⟨c8,0,none⟩=some (.pointer (some ⟨o,0,none⟩))) 7 (by kernel_rfl) ?_;rw[<- e3];clear e3;refine z0c.tm 0 W ?_;refine z0c.tm 1 W ?_
  try simp only[Act.put,tryL]
  refine z0c.on 2 fun K U=>?_;go_simp;refine J8.out.mono ?_;rintro r wa ⟨rfl,e1,v4,_⟩;obtain⟨z9,g1⟩:=exq (wd.heap.size);rw[<- g1] at e1;rw[<- g1];have L:=l.out.kept v4 (fun e=>e) (fun e=>e) (fun e=>e) (fun e=>e) (fun _ e=>e.elim);have d2:wa.cell? ⟨c8,0,none⟩=some (.pointer (some ⟨o,0,none⟩)):=L.k8.cell;have q8:=qh (z8k (v:=z1c) w wa HV.out k4.out L.hb i9.out L.sc e1 L.lc (z0f e1 (show wa.heap[o]?=_ from L.sc) (by decide)) z6s j0.out.fin);have d9:=qh L;clear L e1 v4 g1;refine U.out _ _ (.inr d2) ?_;clear U K
  try simp only[Act.put,tryL]
  refine z0c.on 3 fun K U=>?_;go_simp;refine q8.out.mono ?_;rintro r wf ⟨rfl,e4⟩;have i7:wf.cell? ⟨c8,0,none⟩=some (.pointer (some ⟨o,0,none⟩)):=e4.cell d2 d9.out.n8;have uu1:=qh e4;clear e4;refine U.out _ _ (.inr i7) ?_;clear U K
  try simp only[Act.put,tryL]
  refine z0c.tm 4 i7 ?_;refine z0c.tm 5 i7 ?_;refine z0c.tm 6 i7 ?_
  try simp only[Act.put,tryL]
  refine z0c.on 7 fun K U=>?_;go_simp;refine U.out _ _ (.inl rfl) (z0c.dn ?_);clear U K;go_wp2;go_ret2;exact⟨d9.out.hb.trans (uu1.out.below d9.out.hb.size (fun q e=>by rw[e];exact d9.out.lc)),.inl ⟨HV.out,I3.out,I0.out,st,e0,uu2.out,by rw[o9.out];rfl⟩⟩
 have j5:¬ ((i:Int)<=(na:Int)):=by omega
 go_wp2_with fail
 refine z0g (fun T=>T.cell? ⟨c8,0,none⟩=some (.pointer (some ⟨o,0,none⟩))) 7 (by kernel_rfl) ?_;rw[<- e3];clear e3;refine z0c.tm 0 W ?_;refine z0c.tm 1 W ?_
 try simp only[Act.put,tryL]
 refine z0c.on 2 fun K U=>?_;go_simp;refine J8.out.mono ?_;rintro r wa ⟨rfl,e1,v4,_⟩;obtain⟨z9,g1⟩:=exq (wd.heap.size);rw[<- g1] at e1;rw[<- g1];have L:=l.out.kept v4 (fun e=>e) (fun e=>e) (fun e=>e) (fun e=>e) (fun _ e=>e.elim);have d2:wa.cell? ⟨c8,0,none⟩=some (.pointer (some ⟨o,0,none⟩)):=L.k8.cell;have q8:=qh (z8k (v:=z1c) w wa HV.out k4.out L.hb i9.out L.sc e1 L.lc (z0f e1 (show wa.heap[o]?=_ from L.sc) (by decide)) z6s j0.out.fin);have d9:=qh L;clear L e1 v4 g1;refine U.out _ _ (.inr d2) ?_;clear U K
 try simp only[Act.put,tryL]
 refine z0c.on 3 fun K U=>?_;go_simp;refine q8.out.mono ?_;rintro r wf ⟨rfl,e4⟩;have i7:wf.cell? ⟨c8,0,none⟩=some (.pointer (some ⟨o,0,none⟩)):=e4.cell d2 d9.out.n8;have uu1:=qh e4;clear e4;refine U.out _ _ (.inr i7) ?_;clear U K
 try simp only[Act.put,tryL]
 refine z0c.tm 4 i7 ?_;refine z0c.tm 5 i7 ?_;refine z0c.tm 6 i7 ?_
 try simp only[Act.put,tryL]
 refine z0c.on 7 fun K U=>?_;go_simp;refine U.out _ _ (.inl rfl) (z0c.dn ?_);clear U K;go_wp2;go_ret2;exact⟨d9.out.hb.trans (uu1.out.below d9.out.hb.size (fun q e=>by rw[e];exact d9.out.lc)),.inl ⟨HV.out,I3.out,I0.out,st,e0,uu2.out,by rw[o9.out];rfl⟩⟩
end
section
open Go.RowKit Go.Deep
end
section
open Go.RowKit Go.Deep
end
section
open Go.RowKit Go.Deep
theorem StV.below {w d:World} {c:Value} {n:Nat} {st:StarO} (h:StV w c n st) (hb:Below w.heap.size w d):StV d c n st:=by
 cases st with
 | none=>exact h
 | some S=>exact⟨h.1.kept (z0b hb none),h.2⟩
end
section
open Go.RowKit Go.Deep
def SumR (w:World) (sb:Nat) (k:Int) (e:Nat):Prop:=w.heap[sb]?=some (.cells #[.int .i64 k,.bool (decide (e≠0))] 156 (0,0))
theorem SumR.lt {w:World} {c e:Nat} {k:Int} (h:SumR w c k e):c<w.heap.size:=(Array.getElem?_eq_some_iff.1 h).1
theorem SumR.c1 {w:World} {c e:Nat} {k:Int} (h:SumR w c k e) {b:Bool} (hb:decide (e≠0)=b):w.cell? ⟨c,1,none⟩=some (.bool b):=by unfold SumR at h;rw[hb] at h;simp[World.cell?,h]
theorem SumR.set {w:World} {c e e':Nat} {k:Int} (h:SumR w c k e) {b:Bool} (hb:decide (e'≠0)=b):SumR (w.setCell ⟨c,1,none⟩ (.bool b)) c k e':=by
 unfold SumR at *;rw[hb];simp[World.setCell,Array.getElem?_modify,h]
theorem SumR.kept {w d:World} {c e:Nat} {k:Int} (h:SumR w c k e) (hb:Below w.heap.size w d):SumR d c k e:=by
 unfold SumR at *;rw[hb.block c (Array.getElem?_eq_some_iff.1 h).1];exact h
end
section
open Go.RowKit Go.Deep
def LR (n c d l:Nat):Nat:=if l<c then n else if l=c then d else 0
theorem u3f {n c:Nat} (l:Nat):LR n c n l=LR n (c+1) 0 l:=by
 unfold LR;by_cases e:l<c
 ·rw[if_pos e,if_pos (by omega)]
 by_cases d:l=c
 ·rw[if_neg e,if_pos d,if_pos (by omega)]
 rw[if_neg e,if_neg d,if_neg (by omega)];split<;>rfl
structure Bz (w wr:World) (gB n d m:Nat) (R:Nat->Value) (x:ByteArray):Prop where
 om:OM wr (fun _=>False) gB 9 79 gB n R (LR n d m) (fun _ _=>x)
 gr:Below gB w wr
 wg:w.heap.size<=gB
namespace Bz
variable {w wr w4 wz wa:World} {gB n d m:Nat} {R:Nat->Value} {x:ByteArray}
theorem start (w:World) (x:ByteArray):Bz w (w.alloc (.cells (madeCells #[.slice none 0 0] n) 79)) w.heap.size n 0 0 (fun _=>.slice none 0 0) x :=
 ⟨(OM.made w (fun _=>False) (by simp) w.heap.size nlr 9 79 n _).congrL fun l _=>by unfold LR;split<;>(try split)<;>first|rfl|omega,blr.alloc nlr _,nlr⟩
theorem row (h:Bz w wr gB n d n R x):Bz w wr gB n (d+1) 0 R x:=⟨h.om.congrL fun l _=>u3f l,h.gr,h.wg⟩
end Bz
end
section
open Go.RowKit Go.Deep
def Rw1 (w:World) (g sb gc n:Nat) (Y:Nat->Nat->ByteArray) (i:Nat):Prop :=
 ∃ rb cap,w.cell? ⟨g,i,none⟩=some (.slice (some ⟨rb,0,none⟩) n cap)/\rb<gc/\rb≠sb/\n<=cap/\cap<=9223372036854775807/\∀ j,j<n->w.cell? ⟨rb,j,none⟩=some (.string (Y i j))
theorem Rw1.gr {w wr:World} {g d c n:Nat} {Y:Nat->Nat->ByteArray} {i:Nat} (h:Rw1 w g d c n Y i) (m:Gr c (some d) w wr) (A:g<c) (k:g≠d):Rw1 wr g d c n Y i:=by
 obtain⟨o,l,C,p,s,u,D,B⟩:=h;exact⟨o,l,(World.cell?_of_block (m.block g A (by simp;exact k))).trans C,p,s,u,D,fun j z=>(World.cell?_of_block (m.block o p (by simp;exact s))).trans (B j z)⟩
end
section
open Go.RowKit Go.Deep
end
section
open Go.RowKit Go.Deep
def sr8 (D:MD) (sel:Int->Int->Bool) (q:Nat):Nat->Nat->ByteArray
 | 0=>zerR D.kind
 | d+1=>if sel (D.ain q d) (D.aout q d)=true then updS (sr8 D sel q d) (D.ato q d).toNat (z1i D.kind (sr8 D sel q d (D.ato q d).toNat) (D.aw q d)).1 else sr8 D sel q d
def sm8 (D:MD) (sel:Int->Int->Bool) (q:Nat):Nat->ByteArray:=sr8 D sel q (D.na q)
def Sil8 (D:MD) (sel:Int->Int->Bool) (st:StarO) (e:Nat):Prop :=
 (NoSel D sel/\st=none/\e=0) \/
 (D.n<=60/\e=0/\∃ S,st=some S/\∀ k:KK,k.1=D.kind->∀ q p,q<D.n->p<D.n->Sv k (S q p) (CSR.starM (sils (rmOf k D) sel) D.n q p)) \/
 (e≠0/\st=none)
theorem Sil8.st {D:MD} {st:StarO} (h:Sil8 D silB st 0) {k:KK} (m:k.1=D.kind):StOk k D st:=by
 rcases h with ⟨g,rfl,_⟩|⟨_,_,S,rfl,o⟩|⟨g,_⟩
 ·intro q p c d;rw[<- y0g];exact SilOk.nosil g k q p c
 ·intro q p c d;have l:=o k m q p c d;rw[CSR.starM_congr (M':=sil (rmOf k D)) (fun i j _ _=>y0g _ i j) q p c d] at l;exact l
 exact absurd rfl g
section
open CSR
variable {D:MD} (hV:VM D) {k:KK} (hk:k.1=D.kind)
include hV hk
end
structure S8I (D:MD) (sel:Int->Int->Bool) (w wr:World) (mb g:Nat) (sv:Value) (rb:Nat->Nat) (q:Nat):Prop where
 bx:BxM wr mb D sv
 be:Below w.heap.size w wr
 gr:wr.rowIs g 79 D.n (fun i=>if i<q then .slice (some ⟨rb i,0,none⟩) D.n D.n else .slice none 0 0)
 rows:∀ i,i<q->wr.rowIs (rb i) 9 D.n (fun j=>.string (sm8 D sel i j))
 gl:w.heap.size<=g
 mg:mb≠g
structure S8R (D:MD) (sel:Int->Int->Bool) (w wr:World) (mb g:Nat) (sv:Value) (rb:Nat->Nat) (q lb:Nat) (l:Nat->ByteArray):Prop where
 bx:BxM wr mb D sv
 be:Below w.heap.size w wr
 gr:wr.rowIs g 79 D.n (fun i=>if i<q+1 then .slice (some ⟨if i=q then lb else rb i,0,none⟩) D.n D.n else .slice none 0 0)
 rows:∀ i,i<q->wr.rowIs (rb i) 9 D.n (fun j=>.string (sm8 D sel i j))/\rb i≠lb
 rl:wr.rowIs lb 9 D.n (fun j=>.string (l j))
 gl:w.heap.size<=g
 mg:mb≠g
 ll:w.heap.size<=lb
 ml:mb≠lb
 nl:g≠lb
section
variable {D:MD} {sel:Int->Int->Bool} {w wr wz:World} {mb g lb q:Nat} {sv:Value} {rb:Nat->Nat} {l:Nat->ByteArray}
theorem S8R.done (h:S8R D sel w wr mb g sv rb q lb (sr8 D sel q (D.na q))):S8I D sel w wr mb g sv (fun i=>if i=q then lb else rb i) (q+1) :=
 ⟨h.bx,h.be,h.gr,fun i hi=>by
  by_cases e:i=q
  ·subst e;simp only[if_pos];exact h.rl
  simp only[if_neg e];exact(h.rows i (by omega)).1,h.gl,h.mg⟩
end
end
section
open Go.RowKit Go.Deep
theorem v2k {n:Nat} {v:Value} {x:Nat->Int} (w:World) (B:Si none w v n x) (hn:(n:Int)<=9223372036854775807) :
  Calls prog 46 #[v] w (fun r w'=>r=.returned (.bool (isWord n x))/\w'=w):=by
 obtain⟨a,I,b,F,rfl,D,W,H,hb,c⟩:=B.open;unfold maxLen at H;have Q:=qh D;clear D;have S:=qh c;clear c B hb;by_cases K:(200:Int)<(n:Int)
 ·have s:isWord n x=false:=by unfold isWord;rw[show decide (n<=200)=false by simp;omega];rfl
  rw[s];clear s
  go_enter func46,ntmps46
  go_wp2;go_ret;exact⟨rfl,rfl⟩
 have R:decide ((200:Int)<(n:Int))=false:=by simp;omega
 have P:n<=200:=by omega
 have s:isWord n x=y5e n x 500:=by unfold isWord;rw[show decide (n<=200)=true by simp;omega];simp
 rw[s];clear s K
 go_enter func46,ntmps46
 go_wp2_with fail
 go_loop [3] (fun i=>∃ q:Nat,q<=n/\i=.int .i64 (q:Int)/\∀ j,j<q->1<=x j/\x j<=500) (fun i=>n-(intOf i).toNat)
 case atStart=>exact⟨0,Nat.zero_le _,rfl,fun j N=>by omega⟩
 obtain⟨q,U,rfl,u⟩:=hrel;have z:=qh u;clear u;by_cases o:q<n
 ·have O:(q:Int)<(n:Int):=by omega
  have C:(0:Int)<=(q:Int):=by omega
  obtain rfl:=Q.out (by omega);have c0:=S.out q o;obtain⟨p,m⟩:=exq (x q);rw[<- m] at c0;have l:=qh m;clear m;by_cases X:p<1
  ·have d:y5e n x 500=false:=y9z.2 fun h=>by have:=(h q o).1;rw[<- l.out] at this;omega
   have k:=qh d;clear d;go_wp2;go_ret;exact⟨z0v k.out.symm,rfl⟩
  have E:decide (p<1)=false:=by simp;omega
  by_cases T:(500:Int)<p
  ·have d:y5e n x 500=false:=y9z.2 fun h=>by have:=(h q o).2;rw[<- l.out] at this;omega
   have k:=qh d;clear d;go_wp2;go_ret;exact⟨z0v k.out.symm,rfl⟩
  have J:decide ((500:Int)<p)=false:=by simp;omega
  go_wp2
  go_round
  case rel=>exact⟨q+1,by omega,by go_num,fun j N=>by
   by_cases e:j=q
   ·subst e;rw[<- l.out];omega
   exact z.out j (by omega)⟩
  simp[intOf];omega
 have A:q=n:=by omega
 have L:¬ ((q:Int)<(n:Int)):=by omega
 have g:y5e n x 500=true:=y3n.2 fun i hi=>z.out i (by rw[A];exact hi);have G:=qh g;clear g A;go_wp2;go_ret;exact⟨z0v G.out.symm,rfl⟩
end
section
open Go.RowKit Go.Deep
def Wg8G (D:MD) (na:Nat) (x:Nat->Int) (nb:Nat) (y:Nat->Int) (w:World) (r:Ending) (w':World):Prop :=
 Below w.heap.size w w'/\((VM D/\isWord na x=true/\isWord nb y=true/\∃ st e z,Sil8 D silB st e/\z=(if e≠0 then (⟨#[]⟩,e) else v5p D st na x nb y)/\r=.returned (.tuple #[.string z.1,.int .i64 (z.2:Int)]))\/(¬ (VM D/\isWord na x=true/\isWord nb y=true)/\r=.returned (.tuple #[.string ⟨#[]⟩,.int .i64 1])))
end
section
open Go.RowKit Go.Deep
def Wv (D:MD) (na:Nat) (x:Nat->Int) (nb:Nat) (y:Nat->Int) (z:ByteArray × Nat):Prop:=z.2=0->∀ k:KK,k.1=D.kind->Sv k z.1 (rel (rmOf k D) (ls x na 0) (ls y nb 0))
def WvE (D:MD) (na:Nat) (x:Nat->Int) (nb:Nat) (y:Nat->Int) (w:World) (r:Ending) (w':World):Prop :=
 Below w.heap.size w w'/\∃ z:ByteArray × Nat,r=.returned (.tuple #[.string z.1,.int .i64 (z.2:Int)])/\((VM D/\isWord na x=true/\isWord nb y=true/\Wv D na x nb y z)\/(¬ (VM D/\isWord na x=true/\isWord nb y=true)/\z=(⟨#[]⟩,1)))
theorem isWord.ne {n:Nat} {x:Nat->Int} (h:isWord n x=true):∀ i,i<n->x i≠0:=fun i hi=>by
 unfold isWord at h;rw[Bool.and_eq_true] at h;have c:=y3n.1 h.2 i hi;omega
theorem WgtX.v {D:MD} {na:Nat} {x:Nat->Int} {nb:Nat} {y:Nat->Int} {w:World} {r:Ending} {l:World} (h:WgtX D na x nb y w r l):WvE D na x nb y w r l:=by
 refine⟨h.1,?_⟩
 rcases h.2 with ⟨g,p,s,st,j,c,d⟩|⟨u,d⟩
 ·refine⟨_,d,.inl ⟨g,p,s,fun o k m=>?_⟩⟩;by_cases i:j=0
  ·subst i;exact(v9m g m (c.st m) (isWord.ne p) (isWord.ne s) o).2
  exact absurd (x5b (show (outG D st na x nb y (na+1) 0 _ j).2=0 from o)) i
 exact⟨(⟨#[]⟩,1),d,.inr ⟨u,rfl⟩⟩
theorem Wg8G.v {D:MD} {na:Nat} {x:Nat->Int} {nb:Nat} {y:Nat->Int} {w:World} {r:Ending} {m:World} (h:Wg8G D na x nb y w r m):WvE D na x nb y w r m:=by
 refine⟨h.1,?_⟩
 rcases h.2 with ⟨l,p,s,st,A,z,g,c,i⟩|⟨u,i⟩
 ·refine⟨z,i,.inl ⟨l,p,s,fun d k o=>?_⟩⟩;by_cases j:A=0
  ·subst j;rw[if_neg (by simp)] at c;rw[c] at d ⊢;exact v4j l o (g.st o) (isWord.ne p) (isWord.ne s) d
  rw[if_pos j] at c;rw[c] at d;exact absurd d j
 exact⟨(⟨#[]⟩,1),i,.inr ⟨u,rfl⟩⟩
theorem Wv.eq {D l:MD} {na:Nat} {x:Nat->Int} {nb:Nat} {y:Nat->Int} {g:Nat} {o:Nat->Int} {d:Nat} {p:Nat->Int} {z j:ByteArray × Nat} (h:Wv D na x nb y z) (B:Wv l g o d p j) (A:VM D) (C:l.kind=D.kind)
  (s:∀ k:KK,k.1=D.kind->rel (rmOf k D) (ls x na 0) (ls y nb 0)=rel (rmOf k l) (ls o g 0) (ls p d 0)) (u:z.2=0) (i:j.2=0):z.1=j.1:=by
 obtain⟨k,c⟩:=A.kk;have m:=h u k c;have E:=B i k (c.trans C.symm);rw[s k c] at m;exact m.text E
end
section
open Go.RowKit Go.Deep
def Box4 (w:World) (b:Nat) (kd st:Int) (ld:ByteArray) (sv:Value):Prop:=w.heap[b]?=some (.cells #[.int .i64 kd,.int .i64 st,.string ld,sv] 24 (0,0))
theorem z0w (w:World) (b:Nat) (c i g d:Value) {m j k l:Value} {t:TypeId} (h:w.heap[b]?=some (.cells #[m,j,k,l] t (0,0))):(w.setCells b 0 [c,i,g,d]).heap[b]?=some (.cells #[c,i,g,d] t (0,0)):=by
 simp[World.setCells,World.setCell,Array.getElem?_modify,h]
theorem z0d {B b:Nat} {a w:World} (h:Below B a w) (hb:B<=b) (c d g i:Value):Below B a (w.setCells b 0 [c,d,g,i]) :=
 (((h.setCell (p:=⟨b,0,none⟩) hb c).setCell (p:=⟨b,0+1,none⟩) hb d).setCell (p:=⟨b,0+1+1,none⟩) hb g).setCell (p:=⟨b,0+1+1+1,none⟩) hb i
theorem u2b {w:World} {b:Nat} {i c g d:Value} {t:TypeId} (h:w.heap[b]?=some (.cells #[i,c,g,d] t (0,0))):w.there b 0 4:=by
 intro j k;have:j=0\/j=1\/j=2\/j=3:=by omega
 rcases this with rfl|rfl|rfl|rfl<;>simp[World.cell?,World.frozen?,h]
theorem Box4.range {w:World} {b:Nat} {d st:Int} {g:ByteArray} {sv:Value} (h:Box4 w b d st g sv):w.rangeAt b 0 [.int .i64 d,.int .i64 st,.string g,sv]:=by
 intro j v c;unfold Box4 at h;have i:j<4:=by have:=(List.getElem?_eq_some_iff.1 c).1;simpa using this
 have:j=0\/j=1\/j=2\/j=3:=by omega
 rcases this with rfl|rfl|rfl|rfl<;>(simp at c;subst c;simp[World.cell?,h])
theorem y9x {w:World} {b:Nat} {d st:Int} {c:ByteArray} {sv:Value} (h:Box4 w b d st c sv):(loadVar 24 ⟨b,0,none⟩).run prog w=.ok (.agg #[.int .i64 d,.int .i64 st,.string c,sv]) w :=
 run_loadVar_mid (P:=prog) w b 0 24 [.int .i64 d,.int .i64 st,.string c,sv] _ h.range underlying24 rfl (by kernel_rfl)
theorem x6z {fn:Func} {p:Tmp} (h:fn.results=#[.cell p 24]) (c:Array Value) {w:World} {b:Nat} {g st:Int} {d:ByteArray} {sv:Value} (i:c.getD p undef=.pointer (some ⟨b,0,none⟩)) (hb:Box4 w b g st d sv) :
  (results fn c).run prog w=.ok (.agg #[.int .i64 g,.int .i64 st,.string d,sv]) w:=by
 rw[z7s h,i];show ((loadVar 24 ⟨b,0,none⟩).run prog w)=_;exact y9x hb
theorem z0j {fn:Func} {p u:Tmp} (h:fn.results=#[.cell p 24,.tmp u]) (c:Array Value) {w:World} {b:Nat} {d st:Int} {g:ByteArray} {sv v:Value} (j:c.getD p undef=.pointer (some ⟨b,0,none⟩)) (i:c.getD u undef=v) (hb:Box4 w b d st g sv) :
  (results fn c).run prog w=.ok (.tuple #[.agg #[.int .i64 d,.int .i64 st,.string g,sv],v]) w:=by
 rw[results_cell_tmp h,j,i];show ((loadVar 24 ⟨b,0,none⟩).run prog w).andThen _=_;rw[y9x hb];rfl
end
section
open Go.RowKit Go.Deep
theorem y1u {P:Program} (w:World) (dT C J c:TypeId) (s n:Nat) (g o:Nat) (z:Option Addr) (k:Nat) (d:Array Value) (t:TypeId) (cs:List Value)
  (u:P.underlying dT=some (.slice c)) (A:(P.info? c).map (·.size)=some s) (F:w.heap[g]?=some (.cells d t (0,0))) (I:cs.length=n*s) (B:d.size=n*s)
  (l:0<n->∃ a,z=some a/\∀ j v,cs[j]?=some v->w.cell? (a.add j)=some v) (D:∀ v ∈ cs,v.oneCell'=true) :
  (Builtin.copy_ #[dT,C] J #[.slice (some ⟨g,0,none⟩) n o,.slice z n k]).run P w=.ok (goInt n) (w.setRow g cs.toArray):=by
 have h:=run_storeCells_at P g 0 t cs 0 d w F (by omega) D;have H:(d.toList.take (0+0)++cs++d.toList.drop (0+0+cs.length)).toArray=cs.toArray:=by
  rw[List.drop_eq_nil_of_le (by simp;omega)];simp
 rw[H] at h;cases m:P.info? c with
 | none=>simp[m] at A
 | some i =>
  have hi:i.size=s:=by simpa [m] using A
  by_cases E:n=0
  ·subst E;obtain rfl:cs=[]:=List.eq_nil_of_length_eq_zero (by omega);have p:∀ (x:Addr),(loadCells x 0).run P w=.ok #[] w:=fun x=>by simpa using run_loadCells_list (P:=P) w x [] (by simp)
   cases z with
   | none=>simp[Builtin.copy_,run_underlying u,Builtin.lenOf,Builtin.firstCells,sizeOf,typeInfo,m,h]
   | some a=>simp[Builtin.copy_,run_underlying u,Builtin.lenOf,Builtin.firstCells,sizeOf,typeInfo,m,p,h]
  obtain⟨a,rfl,G⟩:=l (by omega);have p:=run_loadCells_list (P:=P) w a cs G;rw[I] at p;simp[Builtin.copy_,run_underlying u,Builtin.lenOf,Builtin.firstCells,sizeOf,typeInfo,m,hi,p,h]
theorem z6u {P:Program} (t e:TypeId) (z:Value) (s c:Nat) (o:P.underlying t=some (.slice e)) (d:(P.info? e).map (fun i=>(i.zero,i.size,i.bytes))=some (some z,s,c))
  (m kc:IntKind) (n:Nat) (j:c*n<=281474976710656) (u:n<=9223372036854775807) (w:World) :
  (Instr.makeSlice t (.int m (n:Int)) (.int kc (n:Int))).run P w=.ok (.slice (some ⟨w.heap.size,0,none⟩) n n) (w.alloc (.cells (madeCells z.cells (n*s)) e)):=by
 obtain⟨i,hi,g⟩:=Option.map_eq_some_iff.1 d;simp only[Prod.mk.injEq] at g;obtain⟨A,p,hb⟩:=g;have k:(i.bytes:Int)*(n:Int)<=281474976710656:=by
  have h:((i.bytes*n:Nat):Int)<=281474976710656:=by rw[hb];omega
  rwa [Int.natCast_mul] at h
 have l:=run_make (P:=P) w t e i z o hi A m kc n n (by omega) (Int.le_refl _) k (by omega);simp only[Int.toNat_natCast,p] at l;exact l
theorem v5v (z:Array Value) (g:0<z.size) (n:Nat):(madeCells z (n*z.size)).toList=cat (fun _=>z.toList) n:=by
 refine List.ext_getElem? fun i=>?_;by_cases h:i<n*z.size
 ·have j:i % z.size<z.size:=Nat.mod_lt _ g;have l:i / z.size<n:=(Nat.div_lt_iff_lt_mul g).2 h;have m:i / z.size*z.size+i % z.size=i:=by rw[Nat.mul_comm];exact Nat.div_add_mod i z.size
  have d:=z5j (c:=fun _=>z.toList) (s:=z.size) (fun _=>by simp) j l;rw[m] at d;rw[d];have k:i<(madeCells z (n*z.size)).toList.length:=by simp[size_madeCells];exact h
  rw[List.getElem?_eq_getElem k];simp[madeCells,j]
 rw[List.getElem?_eq_none (by simp[size_madeCells];omega),List.getElem?_eq_none (by rw[z4k (s:=z.size) (fun _=>by simp)];omega)]
def z7f:Value:=.agg #[.int .i64 0,.int .i64 0,.string ⟨#[]⟩,.slice none 0 0]
theorem cells4 {w:World} {rb:Nat} {c v1 d g:Value} {t:TypeId} (h:w.heap[rb]?=some (.cells #[c,v1,d,g] t (0,0))):(w.cell? ⟨rb,0,none⟩=some c/\w.cell? ⟨rb,1,none⟩=some v1/\w.cell? ⟨rb,2,none⟩=some d/\w.cell? ⟨rb,3,none⟩=some g)/\∀ j,w.frozen? ⟨rb,j,none⟩=false :=
 ⟨⟨by simp[World.cell?,h],by simp[World.cell?,h],by simp[World.cell?,h],by simp[World.cell?,h]⟩,fun j=>by simp[World.frozen?,h]⟩
theorem x8w:(prog.info? 57).map (fun i=>(i.zero,i.size,i.bytes))=some (some (.agg #[.string ⟨#[]⟩,.slice none 0 0]),2,40):=by kernel_rfl
theorem x7i:(prog.info? 59).map (fun i=>(i.zero,i.size,i.bytes))=some (some (.agg #[.int .i64 0,.int .i64 0,.string ⟨#[]⟩,.int .i64 0]),4,40):=by kernel_rfl
def MkE (V:Prop) (D:MD) (e:Nat) (w:World) (r:Ending) (w':World):Prop :=
 Below w.heap.size w w'/\((V/\∃ sv R,r=.returned (.tuple #[.agg #[.int .i64 D.kind,.int .i64 D.start,.string D.lead,sv],.int .i64 0])/\OwM w' w.heap.size sv D R)\/(¬ V/\r=.returned (.tuple #[z7f,.int .i64 (e:Int)])))
end
section
open Go.RowKit Go.Deep
theorem z9e {o:Option TypeInfo} {z:Value} {s b:Nat} (h:o.map (fun i=>(i.zero,i.size,i.bytes))=some (some z,s,b)):∃ i,o=some i/\i.zero=some z/\i.size=s/\i.bytes=b:=by
 cases o with
 | none=>cases h
 | some i=>simp at h;exact⟨i,rfl,h.1,h.2.1,h.2.2⟩
def RowB (w:World) (q:Nat):Prop:=∃ cs t fr,w.heap[q]?=some (.cells cs t fr)/\(t=57\/t=59)
structure Kt (db:Nat) (w w':World):Prop where
 os:w'.os=w.os
 tape:w'.tape=w.tape
 output:w'.output=w.output
 size:w.heap.size<=w'.heap.size
 block:∀ q,q<w.heap.size->q≠db->¬ RowB w q->w'.heap[q]?=w.heap[q]?
theorem Kt.refl (db:Nat) (w:World):Kt db w w:=⟨rfl,rfl,rfl,nlr,fun _ _ _ _=>rfl⟩
theorem Kt.trans {db:Nat} {w i j:World} (h:Kt db w i) (k:Kt db i j):Kt db w j :=
 ⟨k.os.trans h.os,k.tape.trans h.tape,k.output.trans h.output,Nat.le_trans h.size k.size,fun q g d c=>(k.block q (by have:=h.size;omega) d (fun ⟨l,t,fr,m,o⟩=>c ⟨l,t,fr,by rw[<- h.block q g d c];exact m,o⟩)).trans (h.block q g d c)⟩
theorem Kt.of_fr {db:Nat} {w c:World} (h:Fr (fun q=>q=db) w c):Kt db w c:=⟨h.os,h.tape,h.output,h.size,fun q g d _=>h.block q g d⟩
theorem Kt.of_own {db B:Nat} {w k:World} {e:TypeId} {s n:Nat} {v:Value} {xs:List Value} (h:w.ownsRow B e s v n xs) (p:e=57\/e=59) (c:w.grownBy k v.ownBlock):Kt db w k :=
 ⟨c.os,c.tape,c.output,c.size,fun q o _ l=>c.block q o (fun j=>by
  rcases h.2 with ⟨rfl,_⟩|⟨g,u,d,rfl,_,i,_⟩
  ·cases j
  have m:q=g:=by simpa [Value.ownBlock] using j
  subst m;exact l ⟨d,e,_,i,p⟩)⟩
theorem z2k {w:World} {B:Nat} {e t:TypeId} {s n b:Nat} {v:Value} {xs:List Value} {cs:Array Value} {fr:Nat × Nat} (h:w.ownsRow B e s v n xs) (hb:w.heap[b]?=some (.cells cs t fr)) (d:t≠e):v.ownBlock≠some b:=by
 rcases h.2 with ⟨rfl,_⟩|⟨g,k,j,rfl,_,i,_⟩
 ·simp[Value.ownBlock]
 intro c;simp[Value.ownBlock] at c;subst c;rw[i] at hb;simp at hb;exact d hb.2.1.symm
def bcs (D:MD) (sv:Value) (one:ByteArray) (ac fl:Int):Array Value:=#[.int .i64 D.kind,.int .i64 D.start,.string D.lead,sv,.string one,.int .i64 ac,.int .i64 fl]
structure Bld (w:World) (B db:Nat) (D:MD) (R:Nat->Value) (sv:Value) (one:ByteArray) (ac fl:Int):Prop where
 blk:w.heap[db]?=some (.cells (bcs D sv one ac fl) 113 (0,0))
 own:OwM w B sv D R
 low:B<=db
theorem Bld.lt {w:World} {B db:Nat} {D:MD} {R:Nat->Value} {sv:Value} {one:ByteArray} {ac fl:Int} (h:Bld w B db D R sv one ac fl):db<w.heap.size:=(Array.getElem?_eq_some_iff.1 h.blk).1
section
variable {w:World} {db:Nat} {D:MD} {sv:Value} {one:ByteArray} {ac fl:Int} {t:TypeId} (h:w.heap[db]?=some (.cells (bcs D sv one ac fl) t (0,0)))
include h
theorem BlkB.c0:w.cell? ⟨db,0,none⟩=some (.int .i64 D.kind):=by unfold bcs at h;simp[World.cell?,h]
theorem BlkB.c1:w.cell? ⟨db,1,none⟩=some (.int .i64 D.start):=by unfold bcs at h;simp[World.cell?,h]
theorem BlkB.c2:w.cell? ⟨db,2,none⟩=some (.string D.lead):=by unfold bcs at h;simp[World.cell?,h]
theorem BlkB.c3:w.cell? ⟨db,3,none⟩=some sv:=by unfold bcs at h;simp[World.cell?,h]
theorem BlkB.c4:w.cell? ⟨db,4,none⟩=some (.string one):=by unfold bcs at h;simp[World.cell?,h]
theorem BlkB.c5:w.cell? ⟨db,5,none⟩=some (.int .i64 ac):=by unfold bcs at h;simp[World.cell?,h]
theorem BlkB.c6:w.cell? ⟨db,6,none⟩=some (.int .i64 fl):=by unfold bcs at h;simp[World.cell?,h]
theorem BlkB.fz (j:Nat):w.frozen? ⟨db,j,none⟩=false:=by simp[World.frozen?,h]
theorem BlkB.set3 (v:Value):(w.setCell ⟨db,3,none⟩ v).heap[db]?=some (.cells (bcs D v one ac fl) t (0,0)):=by
 unfold bcs at h ⊢;simp[World.setCell,Array.getElem?_modify,h]
theorem BlkB.set5 (a:Int):(w.setCell ⟨db,5,none⟩ (.int .i64 a)).heap[db]?=some (.cells (bcs D sv one a fl) t (0,0)):=by
 unfold bcs at h ⊢;simp[World.setCell,Array.getElem?_modify,h]
theorem BlkB.set6 (a:Int):(w.setCell ⟨db,6,none⟩ (.int .i64 a)).heap[db]?=some (.cells (bcs D sv one ac a) t (0,0)):=by
 unfold bcs at h ⊢;simp[World.setCell,Array.getElem?_modify,h]
end
def Fre (w:World) (sv:Value) (R:Nat->Value) (n b:Nat):Prop:=b<w.heap.size/\sv.ownBlock≠some b/\∀ i,i<n->(R i).ownBlock≠some b
def FrK (db:Nat) (w:World) (sv:Value) (R:Nat->Value) (n:Nat) (w':World) (sv':Value) (R':Nat->Value) (n':Nat):Prop:=∀ b,b≠db->Fre w sv R n b->Fre w' sv' R' n' b/\w'.heap[b]?=w.heap[b]?
def BlE (B db:Nat) (n:Nat) (R:Nat->Value) (sv:Value) (D':MD) (one:ByteArray) (ac' fl:Int) (w w':World):Prop:=(∃ R' sv',Bld w' B db D' R' sv' one ac' fl/\FrK db w sv R n w' sv' R' D'.n)/\Below B w w'
theorem y6w {w:World} {b:Nat} {cs:Array Value} {t:TypeId} {fr:Nat × Nat} (h:w.heap[b]?=some (.cells cs t fr)):∀ j u,cs.toList[j]?=some u->w.cell? ((⟨b,0,none⟩:Addr).add j)=some u:=by
 intro j u c;rw[Addr.add_lit,Nat.zero_add];simp[World.cell?,h]
 simpa using c
theorem v9a {f:ByteArray}:∀ u ∈ [Value.string f,Value.slice none 0 0],u.oneCell'=true:=by intro u c;simp at c;rcases c with rfl|rfl<;>rfl
theorem x6g {B db:Nat} {D:MD} {R:Nat->Value} {sv:Value} (f:ByteArray) (w:World) {one:ByteArray} {ac fl:Int} (h:Bld w B db D R sv one ac fl) (hB:B<=w.heap.size) (hn:D.n<=100000) :
  Calls prog 91 #[.pointer (some ⟨db,0,none⟩),.string f] w (fun r w'=>r=.returned (.int .i64 (D.n:Int))/\BlE B db D.n R sv (D.state f) one ac fl w w'):=by
 obtain⟨i0,hi,X,T,U⟩:=z9e x8w;obtain⟨C,g⟩:=exq (w.alloc (.cells #[.string f,.slice none 0 0] 57));obtain⟨H,hH⟩:=exq (w.heap.size);have P:w.grownBy C none:=by rw[g];exact World.grownBy_alloc _ _ _
 have o:C.ownsRow B 57 2 sv D.n (cat (st2 D R) D.n):=by rw[g];exact World.ownsRow.alloc h.own.top _
 have O:C.heap[H]?=some (.cells #[.string f,.slice none 0 0] 57 (0,0)):=by rw[g,hH];exact heap_alloc_new w _
 have m:C.heap[db]?=some (.cells (bcs D (sv) one ac fl) 113 (0,0)):=by rw[g,blk_alloc_lt _ _ _ h.lt];exact h.blk
 have c4:C.cell? ⟨db,3,none⟩=some sv:=BlkB.c3 m;have b4:w.cell? ⟨db,3,none⟩=some sv:=BlkB.c3 h.blk;have c7:C.heap.size=H+1:=by rw[g,hH];simp
 obtain⟨sa,sc,a7,_,_⟩:=z1e h.own.top;subst a7;have A:∀ z,(w.alloc (.cells #[.string f,.slice none 0 0] 57)).grownBy z (Value.slice sa D.n sc).ownBlock->z.heap[db]?=some (.cells (bcs D (.slice sa D.n sc) one ac fl) 113 (0,0)):=fun z hg=>by
  rw[<- g] at hg;exact(hg.block db (lt_of_block m) (fun e=>z2k o m (by decide) e.symm)).trans m
 have W:=qh A;clear A;have J:=qh h;clear h;have b2:=qh o;clear o;have b6:=qh O;clear O;have b8:=qh m;clear m;have b9:=qh P;clear P;have HI:=qh hi;have a6:=qh X;have a8:=qh T;have b1:=qh U;clear hi X T U;have b7:=qh hH;clear hH;have b5:=qh g
 go_enter func91,ntmps91
 go_wp2_with (at_builtin;refine wpList_append_lies _ rfl (.tmp 10) (.tmp 13) 22 rfl B 57 i0 (.agg #[.string ⟨#[]⟩,.slice none 0 0]) 2 40 underlying22 HI.out a6.out a8.out b1.out rfl (by omega) (.slice sa D.n sc) D.n _ (by first|rfl|simp[Act.eval,Act.put]) (World.ownsRow.alloc J.out.own.top _) ⟨w.heap.size,0,none⟩ 1 1 [.string f,.slice none 0 0] (by first|rfl|simp[Act.eval,Act.put]) rfl (y6w (cs:=#[.string f,.slice none 0 0]) (heap_alloc_new w _)) v9a (by omega) (by unfold maxLen;omega) (by omega) (by simp;omega) _ rfl ?_;intro G K z s c N b0;have l:=W.out z c;have e4:=BlkB.c3 l;have f4:=BlkB.fz l 3)
 have j:z.ownsRow B 57 2 (.slice (some ⟨G,0,none⟩) (D.n+1) K) (D.n+1) (cat (st2 D R) D.n++[.string f,.slice none 0 0]):=s;have E:=J.out.own.state j c;have Q:(Value.slice (some ⟨G,0,none⟩) (D.n+1) K).ownBlock≠some db:=z2k j l (by decide);have L:∀ i,i<(D.state f).n->((fun i=>if i=D.n then Value.slice none 0 0 else R i) i).ownBlock≠some db:=fun i hi=>z2k (E.row i hi) l (by decide)
 obtain⟨F,d⟩:=exq (z.setCell ⟨db,3,none⟩ (.slice (some ⟨G,0,none⟩) (D.n+1) K));have u:OwM F B (.slice (some ⟨G,0,none⟩) (D.n+1) K) (D.state f) (fun i=>if i=D.n then .slice none 0 0 else R i):=by rw[d];exact E.other (p:=⟨db,3,none⟩) Q L _
 have I:F.heap[db]?=some (.cells (bcs D (.slice (some ⟨G,0,none⟩) (D.n+1) K) one ac fl) 113 (0,0)):=by rw[d];exact BlkB.set3 l _
 have S:Kt db w F:=by
  have h1:Kt db w (w.alloc (.cells #[.string f,.slice none 0 0] 57)):=Kt.of_fr (Fr.alloc _ _);have h2:=Kt.of_own (db:=db) (World.ownsRow.alloc J.out.own.top (.cells #[.string f,.slice none 0 0] 57)) (.inl rfl) c;rw[d];exact(h1.trans h2).trans (Kt.of_fr ((Fr.refl (fun q=>q=db) z).set (p:=⟨db,3,none⟩) (.inl rfl) _))
 have Y:FrK db w (.slice sa D.n sc) R D.n F (.slice (some ⟨G,0,none⟩) (D.n+1) K) (fun i=>if i=D.n then .slice none 0 0 else R i) (D.n+1):=by
  intro b hb hf;have a1:b<(w.alloc (.cells #[.string f,.slice none 0 0] 57)).heap.size:=by have:=hf.1;simp;omega
  refine⟨⟨by rw[d,nblk_setCell];exact Nat.lt_of_lt_of_le a1 c.size,?_,fun i hi=>?_⟩,?_⟩
  ·intro e;have e2:G=b:=by simpa [Value.ownBlock] using e
   subst e2
   rcases N with h1|h1
   ·exact hf.2.1 h1
   omega
  ·dsimp only
   split
   ·simp[Value.ownBlock]
   exact hf.2.2 i (by omega)
  rw[d,z0e hb];exact(c.block b a1 (fun e=>hf.2.1 e.symm)).trans (blk_alloc_lt _ _ _ hf.1)
 have a4:=qh Y;clear Y;have Z:Below B w F:=by
  rw[d];exact((((Below.refl B w).alloc hB (.cells #[.string f,.slice none 0 0] 57)).grown c (by simp;omega) (fun k hk=>(World.ownsRow.lt (World.ownsRow.alloc J.out.own.top (.cells #[.string f,.slice none 0 0] 57)) k hk).1)).setCell (p:=⟨db,3,none⟩) J.out.low _)
 have a2:=qh u;clear u E;have c8:=qh S;clear S;have a5:=qh Z;clear Z j s c N b0 Q L;have c3:=BlkB.c3 I;have a9:=qh I;clear I l;rw[<- d];have b3:=qh d;clear d e4 f4;have a3:((D.n+1:Nat):Int)-1=(D.n:Int):=by omega
 go_wp2;go_ret;exact⟨by first|rfl|(rw[a3])|(go_num),⟨_,_,⟨a9.out,a2.out,J.out.low⟩,a4.out⟩,a5.out⟩
theorem y8i {a b t:Int} {x:ByteArray}:∀ u ∈ [Value.int .i64 a,Value.int .i64 b,Value.string x,Value.int .i64 t],u.oneCell'=true:=by intro u c;simp at c;rcases c with rfl|rfl|rfl|rfl<;>rfl
theorem v6x {B db q:Nat} {D:MD} {R:Nat->Value} {sv:Value} (a b t:Int) (x:ByteArray) (w:World) {one:ByteArray} {ac fl:Int} (h:Bld w B db D R sv one ac fl) (f7:0<=ac) (f9:ac<=100000) (hB:B<=w.heap.size) (hq:q<D.n) (hn:D.n<=100000) (g2:D.na q<=100000) :
  Calls prog 92 #[.pointer (some ⟨db,0,none⟩),.int .i64 (q:Int),.agg #[.int .i64 a,.int .i64 b,.string x,.int .i64 t]] w (fun r w'=>r=.returned (.tuple #[])/\BlE B db D.n R sv (D.arc q a b x t) one (ac+1) fl w w'):=by
 obtain⟨i0,hi,c9,b9,c7⟩:=z9e x7i;have g5:(q:Int)<(D.n:Int):=by omega
 have f2:(0:Int)<=(q:Int):=by omega
 obtain⟨g,N,rfl,_,_,_,_⟩:=z7p h.own.top (by omega);obtain⟨ra,rc,b4,_,_⟩:=z1e (h.own.row q hq);obtain⟨w1,A⟩:=exq (w.alloc (.cells #[.int .i64 a,.int .i64 b,.string x,.int .i64 t] 59));obtain⟨l,m⟩:∃ l,l=(w1.setCell ⟨db,5,none⟩ (.int .i64 (ac+1))).drew:=⟨_,rfl⟩;obtain⟨H,hH⟩:=exq (w.heap.size);have a7:l.heap.size=H+1:=by
  rw[m];show (w1.setCell ⟨db,5,none⟩ (.int .i64 (ac+1))).heap.size=_;rw[nblk_setCell,A,hH];simp
 have u:w1.heap[db]?=some (.cells (bcs D (.slice (some ⟨g,0,none⟩) D.n N) one ac fl) 113 (0,0)):=by rw[A,blk_alloc_lt _ _ _ h.lt];exact h.blk
 have c5:=BlkB.c5 u;have f5:=BlkB.fz u 5;rw[A] at c5 f5;have d2:Fr (fun q=>q=db) w w1:=by rw[A];exact Fr.alloc _ _
 have d5:Fr (fun q=>q=db) w l:=by rw[m];exact(d2.set (p:=⟨db,5,none⟩) (.inl rfl) _).drew
 have Q:l.heap[H]?=some (.cells #[.int .i64 a,.int .i64 b,.string x,.int .i64 t] 59 (0,0)):=by
  rw[m];show (w1.setCell ⟨db,5,none⟩ (.int .i64 (ac+1))).heap[H]?=_;rw[z0e (show H≠db by have:=h.lt;omega),A,hH];exact heap_alloc_new w _
 have a3:l.heap[db]?=some (.cells (bcs D (.slice (some ⟨g,0,none⟩) D.n N) one (ac+1) fl) 113 (0,0)):=by rw[m];exact BlkB.set5 u _
 have J:OwM w1 B (.slice (some ⟨g,0,none⟩) D.n N) D R:=h.own.kept (z:=none) (by rw[A];exact World.grownBy_alloc _ _ _) (by simp);have I:=J.other (p:=⟨db,5,none⟩) (z2k J.top u (by decide)) (fun i hi=>z2k (J.row i hi) u (by decide)) (.int .i64 (ac+1));have a1:OwM l B (.slice (some ⟨g,0,none⟩) D.n N) D R:=by rw[m];exact⟨I.top,I.row,I.apart⟩
 clear J I d2 u;have j:l.cell? ⟨db,3,none⟩=some (.slice (some ⟨g,0,none⟩) D.n N)/\l.cell? ⟨g,q*2+1,none⟩=some (.slice ra (D.na q) rc)/\l.cell? ⟨H,0,none⟩=some (.int .i64 a)/\l.cell? ⟨H,1,none⟩=some (.int .i64 b)/\l.cell? ⟨H,2,none⟩=some (.string x)/\l.cell? ⟨H,3,none⟩=some (.int .i64 t) :=
  ⟨BlkB.c3 a3,by rw[a1.arcs_cell hq,b4],by simp[World.cell?,Q],by simp[World.cell?,Q],by simp[World.cell?,Q],by simp[World.cell?,Q]⟩
 have a8:∀ i,i<D.n->(R i).ownBlock≠some db:=fun i hi=>z2k (a1.row i hi) a3 (by decide);have a9:(R q).ownBlock≠some g:=fun e=>a1.tne hq e rfl;have HI:=qh hi;have e6:=qh c9;have e7:=qh b9;have f0:=qh c7;clear hi c9 b9 c7;have HH:=qh h;clear h;have P:=qh a1;clear a1;have b3:=qh a3;clear a3;have f8:=qh Q;clear Q;have a2:=qh d5;clear d5;have a4:=qh b4;clear b4;have d6:=qh a8;clear a8;have X:=qh a9;clear a9
 go_enter func92,ntmps92
 go_wp2_with fail
 refine z0g (fun O=>O.cell? ⟨db,3,none⟩=some (.slice (some ⟨g,0,none⟩) D.n N)/\O.cell? ⟨g,q*2+1,none⟩=some (.slice ra (D.na q) rc)/\O.cell? ⟨H,0,none⟩=some (.int .i64 a)/\O.cell? ⟨H,1,none⟩=some (.int .i64 b)/\O.cell? ⟨H,2,none⟩=some (.string x)/\O.cell? ⟨H,3,none⟩=some (.int .i64 t)) 20 (by kernel_rfl) ?_;rw[<- A,<- m,<- hH];clear c5 f5;have g0:=qh A;clear A;have f3:=qh m;clear m;have b2:=qh hH;clear hH;refine z0c.tm 0 j ?_;refine z0c.tm 1 j ?_;refine z0c.tm 2 j ?_;refine z0c.tm 3 j ?_;refine z0c.tm 4 j ?_;refine z0c.tm 5 j ?_;refine z0c.tm 6 j ?_;refine z0c.tm 7 j ?_;refine z0c.tm 8 j ?_;refine z0c.tm 9 j ?_;refine z0c.tm 10 j ?_;refine z0c.tm 11 j ?_;refine z0c.tm 12 j ?_;refine z0c.tm 13 j ?_;refine z0c.tm 14 j ?_;refine z0c.tm 15 j ?_
 try simp only[Act.put,tryL]
 refine z0c.on 16 fun K hK=>?_;go_simp;obtain⟨G,F⟩:=exq (l.alloc (.cells #[.int .i64 a,.int .i64 b,.string x,.int .i64 t] 59));have s:l.grownBy G none:=by rw[F];exact World.grownBy_alloc _ _ _
 have b5:G.heap[H+1]?=some (.cells #[.int .i64 a,.int .i64 b,.string x,.int .i64 t] 59 (0,0)):=by rw[F,<- a7];exact heap_alloc_new l _
 have g3:G.heap.size=H+1+1:=by rw[F];simp[a7]
 have S:G.cell? ⟨db,3,none⟩=some (.slice (some ⟨g,0,none⟩) D.n N)/\G.cell? ⟨g,q*2+1,none⟩=some (.slice ra (D.na q) rc)/\G.cell? ⟨H,0,none⟩=some (.int .i64 a)/\G.cell? ⟨H,1,none⟩=some (.int .i64 b)/\G.cell? ⟨H,2,none⟩=some (.string x)/\G.cell? ⟨H,3,none⟩=some (.int .i64 t) :=
  ⟨s.cell j.1 (by simp),s.cell j.2.1 (by simp),s.cell j.2.2.1 (by simp),s.cell j.2.2.2.1 (by simp),s.cell j.2.2.2.2.1 (by simp),s.cell j.2.2.2.2.2 (by simp)⟩
 have L:G.ownsRow B 59 4 (.slice ra (D.na q) rc) (D.na q) (cat (arc4 D q) (D.na q)):=by rw[F,<- a4.out];exact World.ownsRow.alloc (P.out.row q hq) _
 have c8:B<=G.heap.size:=by have:=b2.out;omega
 rw[<- F];have W:=qh F;clear F;have d8:=qh b5;clear b5;refine hK.out _ _ (.inr S) ?_;clear hK K
 try simp only[Act.put,tryL]
 refine z0c.on 17 fun K hK=>?_;refine wp_append_lies _ (.tmp 27) (.tmp 29) 55 rfl B 59 i0 (.agg #[.int .i64 0,.int .i64 0,.string ⟨#[]⟩,.int .i64 0]) 4 40 underlying55 HI.out e6.out e7.out f0.out rfl (by omega) (.slice ra (D.na q) rc) (D.na q) _ (by simp[Act.eval]) L ⟨H+1,0,none⟩ 1 1 [.int .i64 a,.int .i64 b,.string x,.int .i64 t] (by simp[Act.eval]) rfl (y6w (cs:=#[.int .i64 a,.int .i64 b,.string x,.int .i64 t]) d8.out) y8i (by omega) (by unfold maxLen;omega) (by omega) c8 _ rfl ?_;intro go cq E Z C b0 e9;have d:G.grownBy E (R q).ownBlock:=by rw[a4.out];exact C
 have Y:E.heap[db]?=some (.cells (bcs D (.slice (some ⟨g,0,none⟩) D.n N) one (ac+1) fl) 113 (0,0)) :=
  (d.block db (by have:=lt_of_block b3.out;have:=s.size;omega) (fun e=>d6.out q hq e.symm)).trans ((s.block db (lt_of_block b3.out) (by simp)).trans b3.out)
 have g6:g<l.heap.size:=(World.ownsRow.lt P.out.top g rfl).2;have e3:E.cell? ⟨g,q*2+1,none⟩=some (.slice ra (D.na q) rc):=d.cell S.2.1 (fun e=>X.out e.symm);have b6:∀ c,(Value.slice (some ⟨go,0,none⟩) (D.na q+1) cq).ownBlock=some c->(R q).ownBlock=some c\/l.heap.size<=c:=fun c hc=>by
  have e:go=c:=by simpa [Value.ownBlock] using hc
  subst e
  rcases b0 with U|U
  ·exact .inl (by rw[a4.out];exact U)
  right;omega
 have a6:=P.out.arc (a:=a) (b:=b) (x:=x) (t:=t) (v':=.slice (some ⟨go,0,none⟩) (D.na q+1) cq) hq Z (o:=.cells #[.int .i64 a,.int .i64 b,.string x,.int .i64 t] 59) (by rw[<- W.out];exact d) b6;have g1:E.frozen? ⟨g,q*2+1,none⟩=false:=by
  have U:E.ownsRow B 57 2 (.slice (some ⟨g,0,none⟩) D.n N) D.n (cat (st2 D R) D.n):=z2n (by rw[W.out];exact World.ownsRow.alloc P.out.top _) d (fun c hc e=>by
   have e2:g=c:=by simpa [Value.ownBlock] using hc
   subst e2;exact X.out e)
  exact z6a U _
 have b1:E.cell? ⟨db,3,none⟩=some (.slice (some ⟨g,0,none⟩) D.n N)/\E.cell? ⟨g,q*2+1,none⟩=some (.slice ra (D.na q) rc)/\E.cell? ⟨H,0,none⟩=some (.int .i64 a)/\E.cell? ⟨H,1,none⟩=some (.int .i64 b)/\E.cell? ⟨H,2,none⟩=some (.string x)/\E.cell? ⟨H,3,none⟩=some (.int .i64 t):=by
  have T:some H≠(R q).ownBlock:=fun e=>by have:=(World.ownsRow.lt (HH.out.own.row q hq) H e.symm).2;rw[<- b2.out] at this;omega
  exact⟨BlkB.c3 Y,e3,d.cell S.2.2.1 T,d.cell S.2.2.2.1 T,d.cell S.2.2.2.2.1 T,d.cell S.2.2.2.2.2 T⟩
 have d0:FrK db w (.slice (some ⟨g,0,none⟩) D.n N) R D.n (E.setCell ⟨g,q*2+1,none⟩ (.slice (some ⟨go,0,none⟩) (D.na q+1) cq)) (.slice (some ⟨g,0,none⟩) D.n N) (fun i=>if i=q then .slice (some ⟨go,0,none⟩) (D.na q+1) cq else R i) D.n:=by
  intro b hb hf;have f1:b≠g:=fun e=>hf.2.1 (by rw[e];rfl);have d4:b<l.heap.size:=Nat.lt_of_lt_of_le hf.1 a2.out.size;have d7:b<G.heap.size:=Nat.lt_of_lt_of_le d4 s.size;refine⟨⟨by rw[nblk_setCell];exact Nat.lt_of_lt_of_le d7 d.size,hf.2.1,fun i hi=>?_⟩,?_⟩
  ·dsimp only
   split
   ·intro e;have e2:go=b:=by simpa [Value.ownBlock] using e
    subst e2
    rcases b0 with U|U
    ·exact hf.2.2 q hq (by rw[a4.out];exact U)
    omega
   exact hf.2.2 i hi
  rw[z0e f1];exact(d.block b d7 (fun e=>hf.2.2 q hq e.symm)).trans ((s.block b d4 (by simp)).trans (a2.out.block b hf.1 hb))
 have e4:=qh d0;clear d0;have b8:Kt db w E:=by
  have h2:=Kt.of_own (db:=db) (L) (.inr rfl) C;exact((Kt.of_fr a2.out).trans (Kt.of_fr (Fr.of_gb s (by simp)))).trans h2
 have d1:Below B w E:=((a2.out.below hB (fun q e=>by rw[e];exact HH.out.low)).trans (((Below.refl B l).alloc (by have:=b2.out;omega) _))).grown (by rw[<- W.out];exact C) (by rw[<- W.out];exact c8) (fun k hk=>(World.ownsRow.lt L k hk).1);have d3:=qh a6;clear a6;have a5:=qh Y;clear Y;have g4:=qh b8;clear b8;have e5:=qh d1;clear d1;have b7:∃ cs fr,E.heap[g]?=some (.cells cs 57 fr):=by
  have U:E.ownsRow B 57 2 (.slice (some ⟨g,0,none⟩) D.n N) D.n (cat (st2 D R) D.n):=z2n (by rw[W.out];exact World.ownsRow.alloc P.out.top _) d (fun c hc e=>by
   have e2:g=c:=by simpa [Value.ownBlock] using hc
   subst e2;exact X.out e)
  rcases U.2 with ⟨hv,_⟩|⟨g',f4,e0,hv,_,e8,_⟩
  ·cases hv
  cases hv;exact⟨e0,_,e8⟩
 have e1:=qh b7;clear b7;clear Z C d b0 e9 b6 L s;refine hK.out _ _ (.inr b1) ?_;clear hK K
 try simp only[Act.put,tryL]
 refine z0c.tm 18 b1 ?_;refine z0c.tm 19 b1 ?_
 try simp only[Act.put,tryL]
 refine z0c.on 20 fun K hK=>?_;go_simp;refine hK.out _ _ (.inl rfl) (z0c.dn ?_);clear hK K
 go_wp2_with fail
 go_end0
 have d9:B<=g:=(World.ownsRow.lt P.out.top g rfl).1;refine⟨rfl,⟨_,_,⟨?_,d3.out,HH.out.low⟩,e4.out⟩,e5.out.setCell (p:=⟨g,q*2+1,none⟩) d9 _⟩;have T:db≠g:=fun e=>by
  obtain⟨cs,fr,U⟩:=e1.out;rw[<- e,a5.out] at U;simp at U
 rw[z0e (show db≠g from T)];exact a5.out
end
end Go.Proofs.YteappjogmnogcaaGreatDoor
