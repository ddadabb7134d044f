/- Parts of a proof: WgX W8F R8C R8A R7A R7S R8B RWd R8D WVal Box CpyS BlA. -/
import Derived.Test.YteappjogmnogcaaGreatDoorV10
import Derived.Test.YteappjogmnogcaaGreatDoorV09
import Derived.Test.YteappjogmnogcaaGreatDoorV08
import Derived.Test.YteappjogmnogcaaGreatDoorV06
import Derived.Deep.QuietTactic
import Derived.BigQuiet
import Derived.Deep.AppendLies
import Derived.Laws.IdiomCopy
import Derived.Lib.SlBuf
import Derived.Test.YteappjogmnogcaaGreatDoorV07
import Derived.Laws.ResultCell
import Derived.Laws.CopyOwn
namespace Go.Proofs.YteappjogmnogcaaGreatDoor
set_option maxRecDepth 100000
set_option linter.unusedSimpArgs false
set_option linter.unusedVariables false
set_option linter.unusedSectionVars false
set_option maxHeartbeats 16000000
open Go Tryz
section
open Go.RowKit Go.Deep
theorem x4c {D:MD} {mv xv yv:Value} {na nb:Nat} {x y:Nat->Int} (w:World) (hM:Ma none w mv D) (I0:MSz D) (ht:Tab w) (hx:Si none w xv na x) (hy:Si none w yv nb y) (L3:(na:Int)<=9223372036854775807) (K4:(nb:Int)<=9223372036854775807) :
  Calls prog 35 #[mv,xv,yv] w (WgtX D na x nb y w):=by
 obtain⟨sv,rfl,hS⟩:=hM;obtain⟨a,cap,b,O0,A,C,BB,O,i7,_⟩:=hS.open;obtain⟨ax,cx,rfl⟩:=hx.shape;obtain⟨ay,cy,rfl⟩:=hy.shape;subst i7;obtain⟨w1,r2⟩:=exq (w.alloc (.cells #[.int .i64 D.kind,.int .i64 D.start,.string D.lead,.slice a D.n cap] 24));obtain⟨w2,t7⟩:=exq (w1.alloc (.cells #[.slice ax na cx] 25));obtain⟨w3,r7⟩:=exq (w2.alloc (.cells #[.slice ay nb cy] 25));have G4:w1.heap.size=w.heap.size+1:=by rw[r2];simp
 have H9:w2.heap.size=w.heap.size+1+1:=by rw[t7];simp[G4]
 have M1:w3.heap.size=w.heap.size+1+1+1:=by rw[r7];simp[H9]
 have K1:Fr (fun _=>False) w w1:=by rw[r2];exact Fr.alloc _ _
 have d2:Fr (fun _=>False) w1 w2:=by rw[t7];exact Fr.alloc _ _
 have B7:Fr (fun _=>False) w2 w3:=by rw[r7];exact Fr.alloc _ _
 have E9:BoxM w1 w.heap.size D (.slice a D.n cap):=by rw[r2];exact BoxM.new w D _
 have l2:BoxM w3 w.heap.size D (.slice a D.n cap):=(((B7.block _ (by omega) (fun e=>e)).trans (d2.block _ (by omega) (fun e=>e))).trans E9);have G1:Bx w2 (w.heap.size+1) 25 (.slice ax na cx):=by rw[<- G4,t7];exact heap_alloc_new w1 _
 have I7:Bx w3 (w.heap.size+1) 25 (.slice ax na cx):=G1.kept B7 (fun e=>e);have I3:Bx w3 (w.heap.size+1+1) 25 (.slice ay nb cy):=by rw[<- H9,r7];exact heap_alloc_new w2 _
 have C4:Below w.heap.size w w3:=((K1.trans d2).trans B7).below nlr (fun _ e=>e.elim);obtain⟨mb,G8⟩:=exq (w.heap.size);obtain⟨xb,G6⟩:=exq (w.heap.size+1);obtain⟨yb,G7⟩:=exq (w.heap.size+1+1);rw[<- G8] at l2;rw[<- G6] at I7;rw[<- G7] at I3;have O1:w.heap.size<=mb:=by omega
 have m0:=l2.c0;have m1:=l2.c1;have m2:=l2.c2;have m3:=l2.c3;have L8:=qh (z1v w3 (⟨_,rfl,hS.kept (z0b C4 none)⟩:Ma none w3 (.agg #[.int .i64 D.kind,.int .i64 D.start,.string D.lead,.slice a D.n cap]) D) I0 (ht.below C4 nlr));clear K1 d2 B7 E9 G1 G4 H9 M1;have H3:=qh C4;clear C4;have I6:=qh l2;clear l2;have r3:=qh I7;clear I7;have z6:=qh I3;clear I3;have j0:=qh I0;clear I0;have i8:=qh ht;clear ht;have HX:=qh hx;clear hx;have HY:=qh hy;clear hy;have j5:=qh hS;clear hS
 go_enter func35,ntmps35
 go_wp2_with fail
 rw[<- r2,<- t7,<- r7,<- G7,<- G6,<- G8];clear r2 t7 r7 G8 G6 G7 m0 m1 m2 m3;refine L8.out.mono ?_;rintro r w4 ⟨y2,hr⟩;have F0:=H3.out.trans (y2.mono H3.out.size);have G0:BoxM w4 mb D (.slice a D.n cap):=(y2.block _ I6.out.lt).trans I6.out;have z7:Bx w4 xb 25 (.slice ax na cx):=(y2.block _ r3.out.lt).trans r3.out;have F8:Bx w4 yb 25 (.slice ay nb cy):=(y2.block _ z6.out.lt).trans z6.out;have c4:=z7.cell;have e5:=qh F0;clear F0 y2 H3 L8;have j7:=qh G0;clear G0 I6;have z8:=qh z7;clear z7 r3;have n5:=qh F8;clear F8 z6
 rcases hr with ⟨hv,rfl⟩|⟨hv,rfl⟩
 rotate_left
 ·have HV:=qh hv;clear hv;go_wp2;go_ret2;exact⟨e5.out,.inr ⟨fun h=>HV.out h.1,rfl⟩⟩
 have HV:=qh hv;clear hv;have J7:=qh (y2q w4 (HX.out.kept (z0b e5.out none)) L3)
 go_wp2_with fail
 refine J7.out.mono ?_;rintro r M2 ⟨rfl,rfl⟩;cases p7:isWord na x
 ·go_wp2;go_ret2;exact⟨e5.out,.inr ⟨fun h=>absurd h.2.1 (by rw[p7];simp),rfl⟩⟩
 have N2:na<=200:=by unfold isWord at p7;simp at p7;exact p7.1
 have I8:=qh p7;clear p7 J7 L3;have d4:=n5.out.cell;have L2:=qh (y2q M2 (HY.out.kept (z0b e5.out none)) K4)
 go_wp2_with fail
 refine L2.out.mono ?_;rintro r w5 ⟨rfl,rfl⟩;cases p9:isWord nb y
 ·go_wp2;go_ret2;exact⟨e5.out,.inr ⟨fun h=>absurd h.2.2 (by rw[p9];simp),rfl⟩⟩
 have N1:nb<=200:=by unfold isWord at p9;simp at p9;exact p9.1
 have G3:=qh p9;clear p9 L2 K4 c4;have m0:=j7.out.c0;have m1:=j7.out.c1;have m2:=j7.out.c2;have m3:=j7.out.c3;have L4:=qh (x0u w5 HV.out (j5.out.kept (z0b e5.out none)) j0.out.aw (i8.out.below e5.out nlr) u6c)
 go_wp2_with fail
 refine L4.out.mono ?_;rintro r w6 ⟨r4,o,e6,st,e0,rfl,K8,H6,F6,E5⟩;have uu6:=qh E5;clear E5;have J4:=qh F6;clear F6;have K5:=qh H6;have j1:=qh (show w.heap.size<=w6.heap.size from Nat.le_trans e5.out.size r4.size);obtain⟨m,hm⟩:=exq (nb+1);have B4:=run_make_row' (P:=prog) 101 102 (.slice none 0 0) 24 underlying101 x0j rfl .i64 .i64 m (by omega) (by omega);have x5:((m:Nat):Int)=(nb:Int)+1:=by omega
 rw[x5] at B4;have HM:=qh hm;clear hm;have y8:=e5.out.trans (r4.mono e5.out.size);have E8:Bx w6 xb 25 (.slice ax na cx):=(r4.block _ z8.out.lt).trans z8.out;have E6:Bx w6 yb 25 (.slice ay nb cy):=(r4.block _ n5.out.lt).trans n5.out;obtain⟨w7,l4⟩:=exq (w6.alloc (.cells #[.pointer (some ⟨o,0,none⟩)] 98));obtain⟨c8,H0⟩:=exq (w6.heap.size);have f2:Fr (fun _=>False) w6 w7:=by rw[l4];exact Fr.alloc _ _
 have h8:Bx w7 c8 98 (.pointer (some ⟨o,0,none⟩)):=by rw[l4,H0];exact heap_alloc_new w6 _
 have L0:w.heap.size<=o:=Nat.le_trans e5.out.size K8;have c:WG w w6 w7 o c8 xb yb D (.slice a D.n cap) e6 (.slice ax na cx) (.slice ay nb cy) e0:=⟨y8.trans (f2.below y8.size (fun _ e=>e.elim)),⟨f2.os,f2.tape,f2.output,f2.size,fun q hq _=>f2.block q hq (fun e=>e)⟩,H6.kept f2 (fun e=>e),h8,E8.kept f2 (fun e=>e),E6.kept f2 (fun e=>e),L0,j1.out⟩;have d6:=c.ky.cell;obtain⟨w8,y1⟩:=exq (w7.alloc (.cells (madeCells #[.slice none 0 0] m) 102));have J6:w7.heap.size=w6.heap.size+1:=by rw[l4];simp
 obtain⟨g,hg⟩:=exq (w6.heap.size+1);have K3:Fr (fun _=>False) w7 w8:=by rw[y1];exact Fr.alloc _ _
 have k6:w8.rowIs g 102 m (fun _=>.slice none 0 0):=by rw[y1,hg,<- J6];exact World.rowIs_made w7 (.slice none 0 0) m 102
 have p0:=c.kept K3 (fun e=>e) (fun e=>e) (fun e=>e) (fun e=>e) (fun _ e=>e.elim);have k8:=p0.k8.cell;have J9:=qh (y6b w8 p0.sc HV.out.n1 (by have:=HV.out.n2;omega) HV.out.s0 HV.out.s1);have f0:=k6.frozen 0;have I2:w6.heap.size<=g:=by omega
 have v3:=qh p0;clear p0 c;have l3:=qh k6;clear k6;have M6:=qh f2;clear f2;have J5:g<w8.heap.size:=l3.out.lt;have L9:w6.heap.size<=w8.heap.size:=v3.out.gs.size;clear y8 E8 E6 z8 n5 j7 e5 r4 H6 K8 m0 m1 m2 m3 d4 L4 h8 K3 J6;rw[l4] at d6;rw[y1,l4] at k8
 go_wp2_with fail
 rw[<- hg,<- H0,<- l4,<- y1];clear d6 k8 l4 y1 H0 hg M6 B4 x5;refine J9.out.mono ?_;rintro r w9 ⟨rfl,A1,G2⟩;obtain⟨r0,X⟩:=exq (w8.heap.size);rw[<- X] at A1;rw[<- X];have h9:=v3.out.kept G2 (fun e=>e) (fun e=>e) (fun e=>e) (fun e=>e) (fun _ e=>e.elim);have b4:=G2.row l3.out (fun e=>e);have M3:(0:Int)<(m:Int):=by have:=HM.out;omega
 have f0:=b4.frozen 0;have g0:=b4.cell (i:=0) (by have:=HM.out;omega);have K7:g≠r0:=by omega
 have L7:Fr (fun q=>q=g) w9 (w9.setCell ⟨g,0,none⟩ (.slice (some ⟨r0,0,none⟩) D.n D.n)):=(Fr.refl (fun q=>q=g) w9).set (p:=⟨g,0,none⟩) (.inl rfl) _;have uu1:WG w w6 (w9.setCell ⟨g,0,none⟩ (.slice (some ⟨r0,0,none⟩) D.n D.n)) o c8 xb yb D (.slice a D.n cap) e6 (.slice ax na cx) (.slice ay nb cy) e0 :=
  h9.kept L7 (fun e=>z0j b4 h9.sc (by decide) e.symm) (fun e=>z0j b4 h9.k8 (by decide) e.symm) (fun e=>z0j b4 h9.kx (by decide) e.symm) (fun e=>z0j b4 h9.ky (by decide) e.symm) (fun q e=>by rw[e];exact I2)
 have q8:VR1 (w9.setCell ⟨g,0,none⟩ (.slice (some ⟨r0,0,none⟩) D.n D.n)) w6.heap.size g m D.n (fun j=>if j=0 then some r0 else none) (fun j=>if j=0 then some (z6k D) else none):=by
  refine⟨(b4.set 0 _).congr (fun j _=>?_),I2,fun j _=>?_,fun j r x hj H h2=>?_,fun j j' r hj N8 H h2=>?_,fun j x H q=>?_⟩
  ·by_cases e:j=0
   ·rw[if_pos e,if_pos e];rfl
   rw[if_neg e,if_neg e];rfl
  ·by_cases e:j=0
   ·rw[if_pos e,if_pos e];simp
   rw[if_neg e,if_neg e];simp
  ·by_cases e:j=0
   ·rw[if_pos e] at H h2;cases H;cases h2;exact⟨A1.setOther (a:=⟨g,0,none⟩) (fun e=>K7 e.symm) _,by omega⟩
   rw[if_neg e] at H;cases H
  ·by_cases e:j=0
   ·by_cases e':j'=0
    ·rw[e,e']
    rw[if_neg e'] at h2;cases h2
   rw[if_neg e] at H;cases H
  by_cases e:j=0
  ·rw[if_pos e] at H;cases H;unfold z6k;split
   ·exact j0.out.lead
   exact z7b 0
  rw[if_neg e] at H;cases H
 have l7:=qh uu1;clear uu1 L7;have m4:=qh q8;clear q8;clear J9 G2 A1 h9 b4 l3 v3 K7 X J5 L9;obtain⟨p8,o6⟩:=exq (w9.setCell ⟨g,0,none⟩ (.slice (some ⟨r0,0,none⟩) D.n D.n));rw[<- o6] at l7 m4;obtain⟨B3,v2⟩:=exq (w9.heap.size);have E7:p8.heap.size=w9.heap.size:=by rw[o6,nblk_setCell]
 obtain⟨C5,o2⟩:=exq (p8.alloc (.cells #[.int .i64 0] 3));have A3:Fr (fun _=>False) p8 C5:=by rw[o2];exact Fr.alloc _ _
 have x4:Bx C5 B3 3 (.int .i64 ((0:Nat):Int)):=by rw[o2,v2,<- E7];exact heap_alloc_new p8 _
 have s9:=qh (l7.out.kept A3 (fun e=>e) (fun e=>e) (fun e=>e) (fun e=>e) (fun _ e=>e.elim));clear l7;have t8:=qh (m4.out.kept A3);clear m4 A3;have A9:=qh x4;clear x4
 go_wp2_with fail
 rw[<- o6,<- o2,<- v2];clear o2 v2 E7 o6 f0 g0 M3;have N6:m<=201:=by have:=HM.out;omega
 go_loopw [9,10] (fun v9 J0 wr=>∃ (i e g ib:Nat) (R:Nat->Option Nat) (S:Nat->Option VV),i<=na+1/\v9=.slice (some ⟨g,0,none⟩) m m/\J0=.pointer (some ⟨ib,0,none⟩)/\Bx wr ib 3 (.int .i64 (i:Int))/\VR1 wr w6.heap.size g m D.n R S /\
  WG w w6 wr o c8 xb yb D (.slice a D.n cap) e6 (.slice ax na cx) (.slice ay nb cy) e/\outG D st na x nb y (na+1-i) i S e=wgtG D st e0 na x nb y) (fun _ J0 wr=>na+2-ixOf J0 wr)
 case atStart=>exact⟨0,e0,g,B3,_,_,Nat.zero_le _,rfl,rfl,A9.out,t8.out,s9.out,rfl⟩
 obtain⟨i,e,g,ib,R,S,hi,rfl,rfl,B,k,c,c9⟩:=hrel;clear A9 t8 s9 I2;have J:=qh B;clear B;have I:=qh k;clear k;have l:=qh c;clear c;have C3:=qh c9;clear c9;have HI:=qh (y1r J.out.cell);have ci:=J.out.cell;have b0:=l.out.kx.cell;have M9:=l.out.k8.cell;have c5:=l.out.sc.c5;by_cases j3:i<=na/\e=0
 ·obtain⟨O5,rfl⟩:=j3;have N7:(i:Int)<=(na:Int):=by omega
  have a8:=l.out.ky.cell;have B4:=run_make_row' (P:=prog) 101 102 (.slice none 0 0) 24 underlying101 x0j rfl .i64 .i64 m (by have:=HM.out;omega) (by have:=HM.out;omega);have x5:((m:Nat):Int)=(nb:Int)+1:=by have:=HM.out;omega
  rw[x5] at B4;clear x5;have O4:∀ (fn:Fn) (first cap:Array Value) (w:World),(Instr.makeFunc fn first cap).run prog w=.ok (.func fn first cap) w:=fun _ _ _ _=>rfl
  obtain⟨wn,C6⟩:=exq (wr.alloc (.cells (madeCells #[.slice none 0 0] m) 102));obtain⟨g2,H5⟩:=exq (wr.heap.size);have B8:Fr (fun _=>False) wr wn:=by rw[C6];exact Fr.alloc _ _
  have z5:wn.rowIs g2 102 m (fun _=>.slice none 0 0):=by rw[C6,H5];exact World.rowIs_made wr (.slice none 0 0) m 102
  have n9:=I.out.two B8 (show wr.heap.size<=g2 by omega) l.out.gs.size z5;obtain⟨gg,C0⟩:∃ gg:Bool->Nat,gg=fun b=>if b then g2 else g:=⟨_,rfl⟩
  rw[<- C0] at n9;have J8:gg false=g:=by rw[C0];rfl
  have J3:gg true=g2:=by rw[C0];rfl
  have b8:=qh J8;clear J8;have p6:=qh J3;clear J3 C0;obtain⟨R2,L6⟩:∃ R2:Bool->Nat->Option Nat,R2=fun b=>if b then fun _=>none else R:=⟨_,rfl⟩
  rw[<- L6] at n9;clear L6;have F5:=qh (l.out.kept B8 (fun e=>e) (fun e=>e) (fun e=>e) (fun e=>e) (fun _ e=>e.elim));clear l;have F1:=qh (J.out.kept B8 (fun e=>e));clear J;have C7:=qh n9;clear n9 I B8 z5
  go_wp2_with fail
  rw[<- H5,<- C6];clear H5 C6 ci b0 M9 c5 a8;obtain⟨s0,C2⟩:∃ s0:RS,s0=(twoR S (fun _=>none),0):=⟨_,rfl⟩;have K6:=qh C2
  go_loopw [57] (fun H4 wr=>∃ (j:Nat) (R:Bool->Nat->Option Nat) (s:RS),j<=m/\H4=.int .i64 (j:Int)/\s=colG D st na x nb y i j s0/\VR wr w6.heap.size gg m D.n R s.1/\WG w w6 wr o c8 xb yb D (.slice a D.n cap) e6 (.slice ax na cx) (.slice ay nb cy) s.2/\Bx wr ib 3 (.int .i64 (i:Int))) (fun H4 _=>m-(intOf H4).toNat)
  case atStart=>exact⟨0,R2,s0,Nat.zero_le _,rfl,rfl,by rw[C2];exact C7.out,by rw[C2];exact F5.out,F1.out⟩
  obtain⟨j,Rp,sp,hj,rfl,k2,k,c,B⟩:=hrel;clear C7 F5 F1 C2;have I:=qh k;clear k;have l:=qh c;clear c;have J:=qh B;clear B;have B6:=qh k2;clear k2;by_cases a1:j<m
  ·have g7:=qh a1;have N9:(j:Int)<(m:Int):=by omega
   have N4:(0:Int)<=(j:Int):=by omega
   obtain⟨wj,l1⟩:=exq (wr.alloc (.cells #[.int .i64 (j:Int)] 3));obtain⟨jb,z⟩:=exq (wr.heap.size);have B5:Fr (fun _=>False) wr wj:=by rw[l1];exact Fr.alloc _ _
   have K9:Bx wj jb 3 (.int .i64 (j:Int)):=by rw[l1,z];exact heap_alloc_new wr _
   have q7:=I.out.kept B5 (fun _ e=>e) (fun _ _ _ _ _ e=>e);have hg:=(q7.top false).cell a1;rw[b8.out] at hg;have s6:=qh (l.out.kept B5 (fun e=>e) (fun e=>e) (fun e=>e) (fun e=>e) (fun _ e=>e.elim));clear l;have t9:=qh (J.out.kept B5 (fun e=>e));clear J;have E0:=qh K9;clear K9;have j6:=qh q7;clear q7 I B5;cases i7:sp.1 false j with
   | none =>
    have hr:=(j6.out.non false j a1).2 i7;rw[hr] at hg;have m9:wj.cell? ⟨g,j,none⟩=some (.slice none 0 0):=hg;have hq:=fun w=>y1w 102 9 underlying102 w none 0 0;rw[show (none:Option Addr).isNone=true from rfl] at hq;rw[l1] at m9;have k5:colG D st na x nb y i (j+1) s0=sp:=by show y0u D st na x nb y i j (colG D st na x nb y i j s0)=sp;rw[<- B6.out];unfold y0u;rw[i7]
    have d9:=qh k5;clear k5 i7 hr hg
    go_wp2_with fail
    rw[<- l1];go_roundw
    case rel=>exact⟨j+1,Rp,sp,by have:=g7.out;omega,by go_num,d9.out.symm,j6.out,s6.out,t9.out⟩
    simp[intOf];have:=g7.out;omega
   | some vp =>
    obtain⟨rp,m5,C9,_⟩:=j6.out.some_of a1 i7;rw[m5] at hg;have m9:wj.cell? ⟨g,j,none⟩=some (.slice (some ⟨rp,0,none⟩) D.n D.n):=hg;have hq:=fun w=>y1w 102 9 underlying102 w (some ⟨rp,0,none⟩) D.n D.n;rw[show (some (⟨rp,0,none⟩:Addr)).isNone=false from rfl] at hq;obtain⟨rr,G5⟩:=exq (z3w D.kind D.n st vp sp.2);have k5:colG D st na x nb y i (j+1) s0=cell3 D na x nb y i j rr.1 (cell2 D na x i j rr.1 (cell1 D nb y j rr.1 (updV sp.1 false j rr.1,rr.2))):=by show y0u D st na x nb y i j (colG D st na x nb y i j s0)=_;rw[<- B6.out,G5];unfold y0u;rw[i7]
    have H8:=qh G5;clear G5;have d9:=qh k5;clear k5;have z1:=qh i7;clear i7;have F4:=qh C9;clear C9;have b9:=qh m5;clear m5;rw[l1] at m9
    go_wp2_with fail
    rw[<- z,<- l1];clear l1 z m9 hg hq;have a9:Fr (fun _=>False) wj wj.drew:=(Fr.refl _ _).drew;obtain⟨wd,e3⟩:=exq (wj.drew);rw[<- e3] at a9;have u:=s6.out.kept a9 (fun e=>e) (fun e=>e) (fun e=>e) (fun e=>e) (fun _ e=>e.elim);have a7:=j6.out.kept a9 (fun _ e=>e) (fun _ _ _ _ _ e=>e);have k4:=t9.out.kept a9 (fun e=>e);have e7:=E0.out.kept a9 (fun e=>e);have W:wd.cell? ⟨c8,0,none⟩=some (.pointer (some ⟨o,0,none⟩))/\wd.cell? ⟨jb,0,none⟩=some (.int .i64 (j:Int))/\wd.cell? ⟨g,j,none⟩=some (.slice (some ⟨rp,0,none⟩) D.n D.n) :=
     ⟨u.k8.cell,e7.cell,by have H:=(a7.top false).cell a1;rw[b8.out,b9.out] at H;exact H⟩
    have uu7:=a7.sm false j vp z1.out;have D3:=J4.out.later K5.out u.sc u.gs;have J2:=qh (y4x (rb:=rp) (st:=st) (v:=vp) wd HV.out u.sc D3 (a9.row F4.out (fun e=>e)) uu7 w u.hb u.lc i8.out);clear D3;have f8:=qh u;clear u s6;have h7:=qh a7;clear a7 j6;have v8:=qh k4;clear k4 t9;have uu4:=qh e7;clear e7 E0 a9;have C8:=qh uu7;clear uu7 F4;refine z0h (fun T=>T.cell? ⟨c8,0,none⟩=some (.pointer (some ⟨o,0,none⟩))/\T.cell? ⟨jb,0,none⟩=some (.int .i64 (j:Int))/\T.cell? ⟨g,j,none⟩=some (.slice (some ⟨rp,0,none⟩) D.n D.n)) 9 (by kernel_rfl) ?_;rw[<- e3];clear e3;refine z0c.tm 0 W ?_;refine z0c.tm 1 W ?_;refine z0c.tm 2 W ?_;refine z0c.tm 3 W ?_;refine z0c.tm 4 W ?_;refine z0c.tm 5 W ?_;refine z0c.tm 6 W ?_
    try simp only[Act.put,tryL]
    refine z0c.on 7 fun K U=>?_;go_simp;refine J2.out.mono ?_;rintro r N ⟨rv,rfl,l0,y7,K2,a6⟩;rw[<- H8.out] at l0 y7;have d0:∀ b,gg b≠o:=fun b=>h7.out.gne_of (show wd.heap[o]?=_ from f8.out.sc) (by decide) b;have d8:∀ b j r,j<m->Rp b j=some r->r≠o:=fun b j r H h2=>h7.out.rne_of (show wd.heap[o]?=_ from f8.out.sc) (by decide) H h2;have b2:ib≠o:=Bx.ne_scl v8.out f8.out.sc;have b1:jb≠o:=Bx.ne_scl uu4.out f8.out.sc;have uu2:g≠o:=by rw[<- b8.out];exact d0 false
    have f3:=f8.out.rested a6 y7;have A6:=v8.out.kept a6 b2;have o5:=uu4.out.kept a6 b1;have F9:∀ q,smS (rr.1 q):=by rw[H8.out];exact y2u C8.out
    have A5:=h7.out.rested (b:=false) (x:=rr.1) a1 b9.out z1.out a6 d0 d8 l0 F9 K2 f8.out.gs.size;rw[b8.out] at A5;have s8:VR (N.setCell ⟨g,j,none⟩ (.slice (some ⟨rv,0,none⟩) D.n D.n)) w6.heap.size gg m D.n (fun b' j'=>if b'=false/\j'=j then some rv else Rp b' j') (updV sp.1 false j rr.1):=A5
    have c7:N.cell? ⟨c8,0,none⟩=some (.pointer (some ⟨o,0,none⟩))/\N.cell? ⟨jb,0,none⟩=some (.int .i64 (j:Int))/\N.cell? ⟨g,j,none⟩=some (.slice (some ⟨rp,0,none⟩) D.n D.n) :=
     ⟨f3.k8.cell,o5.cell,a6.cell W.2.2 uu2⟩
    have l9:N.rowIs g 102 m (fun j=>vrV D.n (Rp false j)):=by
     have H:=h7.out.top false;rw[b8.out] at H;exact a6.row H uu2
    have fg:=l9.frozen j;have o3:Fr (fun q=>q=g) N (N.setCell ⟨g,j,none⟩ (.slice (some ⟨rv,0,none⟩) D.n D.n)):=(Fr.refl (fun q=>q=g) N).set (p:=⟨g,j,none⟩) (.inl rfl) _;have F:∀ q cs t fr,N.heap[q]?=some (.cells cs t fr)->t≠102->¬ (q=g):=fun q cs t fr H h2 e=>z0j l9 H h2 e.symm;have E2:=f3.kept o3 (F o _ _ _ f3.sc (by decide)) (F c8 _ _ _ f3.k8 (by decide)) (F xb _ _ _ f3.kx (by decide)) (F yb _ _ _ f3.ky (by decide)) (fun q e=>by rw[e,<- b8.out];exact h7.out.low false);have D7:=A6.kept o3 (F ib _ _ _ A6 (by decide));have D2:=o5.kept o3 (F jb _ _ _ o5 (by decide));have l:=qh E2;clear E2 f3 f8;have J:=qh D7;clear D7 A6 v8;have a2:=qh D2;clear D2 o5 uu4;have I:=qh s8;clear s8 A5 h7;clear o3 F l9 F9 b2 b1 uu2 d0 d8 l0 y7 K2 a6 C8;refine U.out _ _ (.inr c7) ?_;clear U K W
    try simp only[Act.put,tryL]
    refine z0c.tm 8 c7 ?_
    try simp only[Act.put,tryL]
    have g0:=c7.2.2;refine z0c.on 9 fun K U=>?_;go_simp;refine U.out _ _ (.inl rfl) (z0c.dn ?_);clear U K J2;obtain⟨ws,H2⟩:=exq (N.setCell ⟨g,j,none⟩ (.slice (some ⟨rv,0,none⟩) D.n D.n));rw[<- H2] at I l J a2;rw[<- H2];clear H2 c7 fg g0;obtain⟨v,hv⟩:=exq (rr.1);obtain⟨s1,k2⟩:∃ s1:RS,s1=(updV sp.1 false j rr.1,rr.2):=⟨_,rfl⟩;obtain⟨R,hR⟩:∃ R:Bool->Nat->Option Nat,R=fun b' j'=>if b'=false/\j'=j then some rv else Rp b' j':=⟨_,rfl⟩
    have E:R false j=some rv:=by rw[hR];exact if_pos ⟨rfl,rfl⟩
    have Q:s1.1 false j=some v:=by rw[k2,hv];exact z6x _ _ _ _
    have r8:=I.out;rw[<- hR,show updV sp.1 false j rr.1=s1.1 by rw[k2]] at r8;have x9:=l.out;rw[show rr.2=s1.2 by rw[k2]] at x9;have k9:=d9.out;rw[<- k2,<- hv] at k9;clear I l d9 b9;have I:=qh r8;clear r8;have l:=qh x9;clear x9;have d9:=qh k9;clear k9;have b9:=qh E;clear E;have o9:=qh Q;clear Q H8 z1;clear k2 hR hv B6;by_cases j9:j<nb
    ·have L1:(j:Int)<(nb:Int):=by omega
     have ci:=J.out.cell;have cj:=a2.out.cell;have b0:=l.out.kx.cell;have a8:=l.out.ky.cell
     go_wp2_with fail
     clear ci cj b0 a8;have a5:=qh (show (j+1)<m by have:=HM.out;omega);have i5:Fr (fun _=>False) ws ws.drew:=(Fr.refl _ _).drew;obtain⟨l6,uu3⟩:=exq (ws.drew);rw[<- uu3] at i5;have L:=l.out.kept i5 (fun e=>e) (fun e=>e) (fun e=>e) (fun e=>e) (fun _ e=>e.elim);have n6:=I.out.kept i5 (fun _ e=>e) (fun _ _ _ _ _ e=>e);have E4:=J.out.kept i5 (fun e=>e);have s7:=a2.out.kept i5 (fun e=>e);have e9:l6.cell? ⟨c8,0,none⟩=some (.pointer (some ⟨o,0,none⟩))/\l6.cell? ⟨jb,0,none⟩=some (.int .i64 (j:Int))/\l6.cell? ⟨g,j,none⟩=some (.slice (some ⟨rv,0,none⟩) D.n D.n) :=
      ⟨L.k8.cell,s7.cell,by have H:=(n6.top false).cell a1;rw[b8.out,b9.out] at H;exact H⟩
     have o7:=x4h (b:=false) (j:=(j+1)) l6 n6 L.sc L.k8.cell a5.out L.gs.size HV.out.n1 (by have:=HV.out.n2;omega);rw[b8.out] at o7;have m7:IntKind.i64.wrap ((j:Int)+1)=(j:Int)+1:=by rw[IntKind.wrap_i64];have:=HM.out;omega
     rw[show (((j+1:Nat)):Int)=(j:Int)+1 by omega] at o7;have F7:=qh o7;clear o7;have i2:=qh L;clear L l;have x3:=qh n6;clear n6 I;have y9:=qh E4;clear E4 J;have x6:=qh s7;clear s7 a2 i5;refine z0h (fun T=>T.cell? ⟨c8,0,none⟩=some (.pointer (some ⟨o,0,none⟩))/\T.cell? ⟨jb,0,none⟩=some (.int .i64 (j:Int))/\T.cell? ⟨g,j,none⟩=some (.slice (some ⟨rv,0,none⟩) D.n D.n)) 11 (by kernel_rfl) ?_;rw[<- uu3];clear uu3;refine z0c.tm 0 e9 ?_;refine z0c.tm 1 e9 ?_;refine z0c.tm 2 e9 ?_;refine z0c.tm 3 e9 ?_;refine z0c.tm 4 e9 ?_;refine z0c.tm 6 e9 ?_;refine z0c.tm 7 e9 ?_;refine z0c.tm 8 e9 ?_;refine z0c.tm 9 e9 ?_;refine z0c.tm 10 e9 ?_
     try simp only[Act.put,tryL]
     refine z0c.on 5 fun K U=>?_;go_simp;refine F7.out.mono ?_;rintro r g4 ⟨Ra,r5,rfl,X,e8,k,hf⟩;have F:∀ q cs t fr,l6.heap[q]?=some (.cells cs t fr)->t≠102->¬ (q=gg false):=fun q cs t fr H h2 e=>x3.out.gne_of H h2 false e.symm;have c:=i2.out.kept hf (F o _ _ _ i2.out.sc (by decide)) (F c8 _ _ _ i2.out.k8 (by decide)) (F xb _ _ _ i2.out.kx (by decide)) (F yb _ _ _ i2.out.ky (by decide)) (fun q e=>by rw[e];exact x3.out.low false);have B:=y9.out.kept hf (F ib _ _ _ y9.out (by decide));have z:=x6.out.kept hf (F jb _ _ _ x6.out (by decide));have Z:¬ (false=false/\j=(j+1)):=fun e=>by have:=e.2;omega
     have E:Ra false j=some rv:=(e8 false j Z).trans b9.out;have Q:(updV s1.1 false (j+1) ((s1.1 false (j+1)).getD z1f)) false j=some v:=(y7i Z).trans o9.out;have G:=k.row false j rv v a1 E Q;have d:=k.row false (j+1) r5 ((s1.1 false (j+1)).getD z1f) a5.out X (z6x _ _ _ _);have b7:o≠r5:=(z0j d.1 (show g4.heap[o]?=_ from c.sc) (by decide)).symm;have b6:rv≠o:=z0j G.1 (show g4.heap[o]?=_ from c.sc) (by decide);have f1:rv≠r5:=fun e=>Z (k.sep false j false (j+1) rv a1 a5.out E (by rw[e];exact X));have d1:∀ q,smS (((s1.1 false (j+1)).getD z1f) q):=k.sm false (j+1) _ (z6x _ _ _ _);have a3:∀ q,smS (v q):=k.sm false j v Q;have b2:ib≠o:=Bx.ne_scl B c.sc;have b1:jb≠o:=Bx.ne_scl z c.sc;have hP:PWt w o xb yb ib jb (.slice ax na cx) (.slice ay nb cy) i j g4:=⟨c.hb,c.kx,c.ky,B,z,c.nx,c.ny,b2,b1⟩;have lx:=(z0j d.1 c.kx (by decide)).symm;have ly:=(z0j d.1 c.ky (by decide)).symm;have li:=(z0j d.1 B (by decide)).symm;have lj:=(z0j d.1 z (by decide)).symm;have b3:=y0h (nf:=85) (cap:=#[.pointer (some ⟨yb,0,none⟩),.pointer (some ⟨jb,0,none⟩)]) (sel:=sel2 (y j)) (P:=PWt w o xb yb ib jb (.slice ax na cx) (.slice ay nb cy) i j) w g4 HV.out j5.out c.hb i8.out c.sc d.1 G.1 c.lc (Nat.le_trans j1.out d.2) b7 f1 b6 d1 a3 j0.out.aw hP
      (fun wa wb hp hf=>hp.fr hf c.lc (Nat.le_trans j1.out d.2) lx ly li lj) (tst2 HY.out j9)
     have v5:g4.cell? ⟨c8,0,none⟩=some (.pointer (some ⟨o,0,none⟩))/\g4.cell? ⟨jb,0,none⟩=some (.int .i64 (j:Int))/\g4.cell? ⟨g,j,none⟩=some (.slice (some ⟨rv,0,none⟩) D.n D.n) :=
      ⟨c.k8.cell,z.cell,by have H:=(k.top false).cell a1;rw[b8.out,E] at H;exact H⟩
     have d0:∀ b,gg b≠o:=fun b=>k.gne_of (show g4.heap[o]?=_ from c.sc) (by decide) b;have d8:∀ b j r,j<m->Ra b j=some r->r≠o:=fun b j r H h2=>k.rne_of (show g4.heap[o]?=_ from c.sc) (by decide) H h2;have I1:=a3;have g1:∀ (N:World) (lz:N.rowIs r5 9 D.n (fun q=>.string ((z2y D (sel2 (y j)) v D.n ((s1.1 false (j+1)).getD z1f,s1.2)).1 q))),Fr (fun q=>q=o\/q=r5) g4 N->Scl N o D (.slice a D.n cap) e6 (z2y D (sel2 (y j)) v D.n ((s1.1 false (j+1)).getD z1f,s1.2)).2 ->
       VR N w6.heap.size gg m D.n Ra (z3d D false (j+1) (sel2 (y j)) v s1).1/\WG w w6 N o c8 xb yb D (.slice a D.n cap) e6 (.slice ax na cx) (.slice ay nb cy) (z3d D false (j+1) (sel2 (y j)) v s1).2/\Bx N ib 3 (.int .i64 (i:Int))/\Bx N jb 3 (.int .i64 (j:Int)):=fun N lz fz sz=>by
      have H:=k.step2 a5.out X fz d0 d8 lz (z6b a3 D.n d1);rw[z8z] at H;exact⟨H,c.stepped fz sz d.1 d.2,B.kept fz (fun e=>e.elim b2 li),z.kept fz (fun e=>e.elim b1 lj)⟩
     have uu0:=qh b3;clear b3;have D6:=qh g1;clear g1;have b9:=qh E;clear E;have Y:(z3d D false (j+1) (sel2 (y j)) v s1).1 false j=some v:=(y0a Z).trans o9.out;clear I1 F c B z Q G d b7 b6 f1 d1 a3 b2 b1 hP lx ly li lj d0 d8 hf k e8 X Z;have B1:=v5;refine U.out _ _ (.inr v5) ?_;clear U K
     try simp only[Act.put,tryL]
     refine z0c.on 11 fun K U=>?_;go_simp;refine uu0.out.mono ?_;rintro r wt ⟨rfl,f4,a4,d2⟩;obtain⟨k,c,B,z⟩:=D6.out wt f4 d2 a4;refine U.out _ _ (.inl rfl) (z0c.dn ?_);clear U K B1 m7 f4 d2 a4 uu0 D6 F7 e9 v5 x3 i2 y9 x6;obtain⟨s2,a4⟩:=exq (z3d D false (j+1) (sel2 (y j)) v s1);rw[<- a4] at k c Y;have B2:=qh a4;clear a4;have r9:=qh Y;clear Y;have I:=qh k;clear k;have l:=qh c;clear c;have J:=qh B;clear B;have a2:=qh z;clear z;by_cases d5:i<na
     ·have j4:(i:Int)<(na:Int):=by omega
      have ci:=J.out.cell;have cj:=a2.out.cell;have b0:=l.out.kx.cell;have a8:=l.out.ky.cell
      go_wp2_with fail
      clear ci cj b0 a8;have a5:=qh (show j<m by have:=HM.out;omega);have h4:Fr (fun _=>False) wt wt.drew:=(Fr.refl _ _).drew;obtain⟨l5,z3⟩:=exq (wt.drew);rw[<- z3] at h4;have i4:=l.out.kept h4 (fun e=>e) (fun e=>e) (fun e=>e) (fun e=>e) (fun _ e=>e.elim);have o4:=I.out.kept h4 (fun _ e=>e) (fun _ _ _ _ _ e=>e);have F3:=J.out.kept h4 (fun e=>e);have x1:=a2.out.kept h4 (fun e=>e);have g8:l5.cell? ⟨c8,0,none⟩=some (.pointer (some ⟨o,0,none⟩))/\l5.cell? ⟨jb,0,none⟩=some (.int .i64 (j:Int))/\l5.cell? ⟨g,j,none⟩=some (.slice (some ⟨rv,0,none⟩) D.n D.n) :=
       ⟨i4.k8.cell,x1.cell,by have H:=(o4.top false).cell a1;rw[b8.out,b9.out] at H;exact H⟩
      have y3:=x4h (b:=true) (j:=j) l5 o4 i4.sc i4.k8.cell a5.out i4.gs.size HV.out.n1 (by have:=HV.out.n2;omega);rw[p6.out] at y3;have m7:=HV.out;have D5:=qh y3;clear y3;have h0:=qh i4;clear i4 l;have z2:=qh o4;clear o4 I;have v7:=qh F3;clear F3 J;have A4:=qh x1;clear x1 a2 h4;refine z0h (fun T=>T.cell? ⟨c8,0,none⟩=some (.pointer (some ⟨o,0,none⟩))/\T.cell? ⟨jb,0,none⟩=some (.int .i64 (j:Int))/\T.cell? ⟨g,j,none⟩=some (.slice (some ⟨rv,0,none⟩) D.n D.n)) 10 (by kernel_rfl) ?_;rw[<- z3];clear z3;refine z0c.tm 0 g8 ?_;refine z0c.tm 1 g8 ?_;refine z0c.tm 2 g8 ?_;refine z0c.tm 3 g8 ?_;refine z0c.tm 5 g8 ?_;refine z0c.tm 6 g8 ?_;refine z0c.tm 7 g8 ?_;refine z0c.tm 8 g8 ?_;refine z0c.tm 9 g8 ?_
      try simp only[Act.put,tryL]
      refine z0c.on 4 fun K U=>?_;go_simp;refine D5.out.mono ?_;rintro r g6 ⟨Rb,A2,rfl,X,e8,k,hf⟩;have F:∀ q cs t fr,l5.heap[q]?=some (.cells cs t fr)->t≠102->¬ (q=gg true):=fun q cs t fr H h2 e=>z2.out.gne_of H h2 true e.symm;have c:=h0.out.kept hf (F o _ _ _ h0.out.sc (by decide)) (F c8 _ _ _ h0.out.k8 (by decide)) (F xb _ _ _ h0.out.kx (by decide)) (F yb _ _ _ h0.out.ky (by decide)) (fun q e=>by rw[e];exact z2.out.low true);have B:=v7.out.kept hf (F ib _ _ _ v7.out (by decide));have z:=A4.out.kept hf (F jb _ _ _ A4.out (by decide));have Z:¬ (false=true/\j=j):=fun e=>by cases e.1
      have E:Rb false j=some rv:=(e8 false j Z).trans b9.out;have Q:(updV s2.1 true j ((s2.1 true j).getD z1f)) false j=some v:=(y7i Z).trans r9.out;have G:=k.row false j rv v a1 E Q;have d:=k.row true j A2 ((s2.1 true j).getD z1f) a5.out X (z6x _ _ _ _);have b7:o≠A2:=(z0j d.1 (show g6.heap[o]?=_ from c.sc) (by decide)).symm;have b6:rv≠o:=z0j G.1 (show g6.heap[o]?=_ from c.sc) (by decide);have f1:rv≠A2:=fun e=>Z (k.sep false j true j rv a1 a5.out E (by rw[e];exact X));have d1:∀ q,smS (((s2.1 true j).getD z1f) q):=k.sm true j _ (z6x _ _ _ _);have a3:∀ q,smS (v q):=k.sm false j v Q;have b2:ib≠o:=Bx.ne_scl B c.sc;have b1:jb≠o:=Bx.ne_scl z c.sc;have hP:PWt w o xb yb ib jb (.slice ax na cx) (.slice ay nb cy) i j g6:=⟨c.hb,c.kx,c.ky,B,z,c.nx,c.ny,b2,b1⟩;have lx:=(z0j d.1 c.kx (by decide)).symm;have ly:=(z0j d.1 c.ky (by decide)).symm;have li:=(z0j d.1 B (by decide)).symm;have lj:=(z0j d.1 z (by decide)).symm;have b3:=y0h (nf:=86) (cap:=#[.pointer (some ⟨xb,0,none⟩),.pointer (some ⟨ib,0,none⟩)]) (sel:=sel3 (x i)) (P:=PWt w o xb yb ib jb (.slice ax na cx) (.slice ay nb cy) i j) w g6 HV.out j5.out c.hb i8.out c.sc d.1 G.1 c.lc (Nat.le_trans j1.out d.2) b7 f1 b6 d1 a3 j0.out.aw hP
       (fun wa wb hp hf=>hp.fr hf c.lc (Nat.le_trans j1.out d.2) lx ly li lj) (tst3 HX.out d5)
      have uu9:g6.cell? ⟨c8,0,none⟩=some (.pointer (some ⟨o,0,none⟩))/\g6.cell? ⟨jb,0,none⟩=some (.int .i64 (j:Int))/\g6.cell? ⟨g,j,none⟩=some (.slice (some ⟨rv,0,none⟩) D.n D.n) :=
       ⟨c.k8.cell,z.cell,by have H:=(k.top false).cell a1;rw[b8.out,E] at H;exact H⟩
      have d0:∀ b,gg b≠o:=fun b=>k.gne_of (show g6.heap[o]?=_ from c.sc) (by decide) b;have d8:∀ b j r,j<m->Rb b j=some r->r≠o:=fun b j r H h2=>k.rne_of (show g6.heap[o]?=_ from c.sc) (by decide) H h2;have H7:=a3;have g1:∀ (N:World) (lz:N.rowIs A2 9 D.n (fun q=>.string ((z2y D (sel3 (x i)) v D.n ((s2.1 true j).getD z1f,s2.2)).1 q))),Fr (fun q=>q=o\/q=A2) g6 N->Scl N o D (.slice a D.n cap) e6 (z2y D (sel3 (x i)) v D.n ((s2.1 true j).getD z1f,s2.2)).2 ->
        VR N w6.heap.size gg m D.n Rb (z3d D true j (sel3 (x i)) v s2).1/\WG w w6 N o c8 xb yb D (.slice a D.n cap) e6 (.slice ax na cx) (.slice ay nb cy) (z3d D true j (sel3 (x i)) v s2).2/\Bx N ib 3 (.int .i64 (i:Int))/\Bx N jb 3 (.int .i64 (j:Int)):=fun N lz fz sz=>by
       have H:=k.step2 a5.out X fz d0 d8 lz (z6b a3 D.n d1);rw[z8z] at H;exact⟨H,c.stepped fz sz d.1 d.2,B.kept fz (fun e=>e.elim b2 li),z.kept fz (fun e=>e.elim b1 lj)⟩
      have y5:=qh b3;clear b3;have E3:=qh g1;clear g1;have b9:=qh E;clear E;have Y:(z3d D true j (sel3 (x i)) v s2).1 false j=some v:=(y0a Z).trans r9.out;clear H7 F c B z Q G d b7 b6 f1 d1 a3 b2 b1 hP lx ly li lj d0 d8 hf k e8 X Z;have B0:=uu9;refine U.out _ _ (.inr uu9) ?_;clear U K
      try simp only[Act.put,tryL]
      refine z0c.on 10 fun K U=>?_;go_simp;refine y5.out.mono ?_;rintro r wu ⟨rfl,f4,a4,d2⟩;obtain⟨k,c,B,z⟩:=E3.out wu f4 d2 a4;refine U.out _ _ (.inl rfl) (z0c.dn ?_);clear U K B0 m7 f4 d2 a4 y5 E3 D5 g8 uu9 z2 h0 v7 A4;obtain⟨s3,H1⟩:=exq (z3d D true j (sel3 (x i)) v s2);rw[<- H1] at k c Y;have M5:=qh H1;clear H1;have D8:=qh Y;clear Y;have I:=qh k;clear k;have l:=qh c;clear c;have J:=qh B;clear B;have a2:=qh z;clear z;have ci:=J.out.cell;have cj:=a2.out.cell;have b0:=l.out.kx.cell;have a8:=l.out.ky.cell
      go_wp2_with fail
      clear ci cj b0 a8;have a5:=qh (show (j+1)<m by have:=HM.out;omega);have i3:Fr (fun _=>False) wu wu.drew:=(Fr.refl _ _).drew;obtain⟨k7,w0⟩:=exq (wu.drew);rw[<- w0] at i3;have h3:=l.out.kept i3 (fun e=>e) (fun e=>e) (fun e=>e) (fun e=>e) (fun _ e=>e.elim);have o8:=I.out.kept i3 (fun _ e=>e) (fun _ _ _ _ _ e=>e);have D9:=J.out.kept i3 (fun e=>e);have y6:=a2.out.kept i3 (fun e=>e);have f9:k7.cell? ⟨c8,0,none⟩=some (.pointer (some ⟨o,0,none⟩))/\k7.cell? ⟨jb,0,none⟩=some (.int .i64 (j:Int))/\k7.cell? ⟨g,j,none⟩=some (.slice (some ⟨rv,0,none⟩) D.n D.n) :=
       ⟨h3.k8.cell,y6.cell,by have H:=(o8.top false).cell a1;rw[b8.out,b9.out] at H;exact H⟩
      have n7:=x4h (b:=true) (j:=(j+1)) k7 o8 h3.sc h3.k8.cell a5.out h3.gs.size HV.out.n1 (by have:=HV.out.n2;omega);rw[p6.out] at n7;have m7:IntKind.i64.wrap ((j:Int)+1)=(j:Int)+1:=by rw[IntKind.wrap_i64];have:=HM.out;omega
      rw[show (((j+1:Nat)):Int)=(j:Int)+1 by omega] at n7;have D0:=qh n7;clear n7;have h5:=qh h3;clear h3 l;have v6:=qh o8;clear o8 I;have A8:=qh D9;clear D9 J;have s5:=qh y6;clear y6 a2 i3;refine z0h (fun T=>T.cell? ⟨c8,0,none⟩=some (.pointer (some ⟨o,0,none⟩))/\T.cell? ⟨jb,0,none⟩=some (.int .i64 (j:Int))/\T.cell? ⟨g,j,none⟩=some (.slice (some ⟨rv,0,none⟩) D.n D.n)) 11 (by kernel_rfl) ?_;rw[<- w0];clear w0;refine z0c.tm 0 f9 ?_;refine z0c.tm 1 f9 ?_;refine z0c.tm 2 f9 ?_;refine z0c.tm 3 f9 ?_;refine z0c.tm 4 f9 ?_;refine z0c.tm 6 f9 ?_;refine z0c.tm 7 f9 ?_;refine z0c.tm 8 f9 ?_;refine z0c.tm 9 f9 ?_;refine z0c.tm 10 f9 ?_
      try simp only[Act.put,tryL]
      refine z0c.on 5 fun K U=>?_;go_simp;refine D0.out.mono ?_;rintro r g5 ⟨Rc,x0,rfl,X,e8,k,hf⟩;have F:∀ q cs t fr,k7.heap[q]?=some (.cells cs t fr)->t≠102->¬ (q=gg true):=fun q cs t fr H h2 e=>v6.out.gne_of H h2 true e.symm;have c:=h5.out.kept hf (F o _ _ _ h5.out.sc (by decide)) (F c8 _ _ _ h5.out.k8 (by decide)) (F xb _ _ _ h5.out.kx (by decide)) (F yb _ _ _ h5.out.ky (by decide)) (fun q e=>by rw[e];exact v6.out.low true);have B:=A8.out.kept hf (F ib _ _ _ A8.out (by decide));have z:=s5.out.kept hf (F jb _ _ _ s5.out (by decide));have Z:¬ (false=true/\j=(j+1)):=fun e=>by cases e.1
      have E:Rc false j=some rv:=(e8 false j Z).trans b9.out;have Q:(updV s3.1 true (j+1) ((s3.1 true (j+1)).getD z1f)) false j=some v:=(y7i Z).trans D8.out;have G:=k.row false j rv v a1 E Q;have d:=k.row true (j+1) x0 ((s3.1 true (j+1)).getD z1f) a5.out X (z6x _ _ _ _);have b7:o≠x0:=(z0j d.1 (show g5.heap[o]?=_ from c.sc) (by decide)).symm;have b6:rv≠o:=z0j G.1 (show g5.heap[o]?=_ from c.sc) (by decide);have f1:rv≠x0:=fun e=>Z (k.sep false j true (j+1) rv a1 a5.out E (by rw[e];exact X));have d1:∀ q,smS (((s3.1 true (j+1)).getD z1f) q):=k.sm true (j+1) _ (z6x _ _ _ _);have a3:∀ q,smS (v q):=k.sm false j v Q;have b2:ib≠o:=Bx.ne_scl B c.sc;have b1:jb≠o:=Bx.ne_scl z c.sc;have hP:PWt w o xb yb ib jb (.slice ax na cx) (.slice ay nb cy) i j g5:=⟨c.hb,c.kx,c.ky,B,z,c.nx,c.ny,b2,b1⟩;have lx:=(z0j d.1 c.kx (by decide)).symm;have ly:=(z0j d.1 c.ky (by decide)).symm;have li:=(z0j d.1 B (by decide)).symm;have lj:=(z0j d.1 z (by decide)).symm;have b3:=y0h (nf:=87) (cap:=#[.pointer (some ⟨xb,0,none⟩),.pointer (some ⟨ib,0,none⟩),.pointer (some ⟨yb,0,none⟩),.pointer (some ⟨jb,0,none⟩)]) (sel:=sel4 (x i) (y j)) (P:=PWt w o xb yb ib jb (.slice ax na cx) (.slice ay nb cy) i j) w g5 HV.out j5.out c.hb i8.out c.sc d.1 G.1 c.lc (Nat.le_trans j1.out d.2) b7 f1 b6 d1 a3 j0.out.aw hP
       (fun wa wb hp hf=>hp.fr hf c.lc (Nat.le_trans j1.out d.2) lx ly li lj) (tst4 HX.out d5 HY.out j9)
      have z4:g5.cell? ⟨c8,0,none⟩=some (.pointer (some ⟨o,0,none⟩))/\g5.cell? ⟨jb,0,none⟩=some (.int .i64 (j:Int))/\g5.cell? ⟨g,j,none⟩=some (.slice (some ⟨rv,0,none⟩) D.n D.n) :=
       ⟨c.k8.cell,z.cell,by have H:=(k.top false).cell a1;rw[b8.out,E] at H;exact H⟩
      have d0:∀ b,gg b≠o:=fun b=>k.gne_of (show g5.heap[o]?=_ from c.sc) (by decide) b;have d8:∀ b j r,j<m->Rc b j=some r->r≠o:=fun b j r H h2=>k.rne_of (show g5.heap[o]?=_ from c.sc) (by decide) H h2;have I4:=a3;have g1:∀ (N:World) (lz:N.rowIs x0 9 D.n (fun q=>.string ((z2y D (sel4 (x i) (y j)) v D.n ((s3.1 true (j+1)).getD z1f,s3.2)).1 q))),Fr (fun q=>q=o\/q=x0) g5 N->Scl N o D (.slice a D.n cap) e6 (z2y D (sel4 (x i) (y j)) v D.n ((s3.1 true (j+1)).getD z1f,s3.2)).2 ->
        VR N w6.heap.size gg m D.n Rc (z3d D true (j+1) (sel4 (x i) (y j)) v s3).1/\WG w w6 N o c8 xb yb D (.slice a D.n cap) e6 (.slice ax na cx) (.slice ay nb cy) (z3d D true (j+1) (sel4 (x i) (y j)) v s3).2/\Bx N ib 3 (.int .i64 (i:Int))/\Bx N jb 3 (.int .i64 (j:Int)):=fun N lz fz sz=>by
       have H:=k.step2 a5.out X fz d0 d8 lz (z6b a3 D.n d1);rw[z8z] at H;exact⟨H,c.stepped fz sz d.1 d.2,B.kept fz (fun e=>e.elim b2 li),z.kept fz (fun e=>e.elim b1 lj)⟩
      have x8:=qh b3;clear b3;have F2:=qh g1;clear g1;have b9:=qh E;clear E;have Y:(z3d D true (j+1) (sel4 (x i) (y j)) v s3).1 false j=some v:=(y0a Z).trans D8.out;clear I4 F c B z Q G d b7 b6 f1 d1 a3 b2 b1 hP lx ly li lj d0 d8 hf k e8 X Z;have C1:=z4;refine U.out _ _ (.inr z4) ?_;clear U K
      try simp only[Act.put,tryL]
      refine z0c.on 11 fun K U=>?_;go_simp;refine x8.out.mono ?_;rintro r wv ⟨rfl,f4,a4,d2⟩;obtain⟨k,c,B,z⟩:=F2.out wv f4 d2 a4;refine U.out _ _ (.inl rfl) (z0c.dn ?_);clear U K C1 m7 f4 d2 a4 x8 F2 D0 f9 z4 v6 h5 A8 s5;obtain⟨s4,G9⟩:=exq (z3d D true (j+1) (sel4 (x i) (y j)) v s3);rw[<- G9] at k c Y;have M7:=qh G9;clear G9;have N3:=qh Y;clear Y;have I:=qh k;clear k;have l:=qh c;clear c;have J:=qh B;clear B;have a2:=qh z;clear z;have ci:=J.out.cell;have cj:=a2.out.cell;have b0:=l.out.kx.cell;have a8:=l.out.ky.cell
      go_wp2_with fail
      clear ci cj b0 a8;go_roundw
      case rel=>exact⟨j+1,_,s4,by have:=g7.out;omega,by go_num,by rw[d9.out];unfold cell1 cell2 cell3;rw[if_pos j9,if_pos d5,if_pos ⟨d5,j9⟩,M7.out,M5.out,B2.out],I.out,l.out,J.out⟩
      simp[intOf];have:=g7.out;omega
     have j4:¬ ((i:Int)<(na:Int)):=by omega
     have ci:=J.out.cell;have cj:=a2.out.cell;have b0:=l.out.kx.cell;have a8:=l.out.ky.cell
     go_wp2_with fail
     clear ci cj b0 a8;go_roundw
     case rel=>exact⟨j+1,_,s2,by have:=g7.out;omega,by go_num,by rw[d9.out];unfold cell1 cell2 cell3;rw[if_pos j9,if_neg d5,if_neg (fun h=>d5 h.1),B2.out],I.out,l.out,J.out⟩
     simp[intOf];have:=g7.out;omega
    have L1:¬ ((j:Int)<(nb:Int)):=by omega
    by_cases d5:i<na
    ·have j4:(i:Int)<(na:Int):=by omega
     have ci:=J.out.cell;have cj:=a2.out.cell;have b0:=l.out.kx.cell;have a8:=l.out.ky.cell
     go_wp2_with fail
     clear ci cj b0 a8;have a5:=qh (show j<m by have:=HM.out;omega);have h6:Fr (fun _=>False) ws ws.drew:=(Fr.refl _ _).drew;obtain⟨m8,q9⟩:=exq (ws.drew);rw[<- q9] at h6;have u:=l.out.kept h6 (fun e=>e) (fun e=>e) (fun e=>e) (fun e=>e) (fun _ e=>e.elim);have a7:=I.out.kept h6 (fun _ e=>e) (fun _ _ _ _ _ e=>e);have k4:=J.out.kept h6 (fun e=>e);have e7:=a2.out.kept h6 (fun e=>e);have g9:m8.cell? ⟨c8,0,none⟩=some (.pointer (some ⟨o,0,none⟩))/\m8.cell? ⟨jb,0,none⟩=some (.int .i64 (j:Int))/\m8.cell? ⟨g,j,none⟩=some (.slice (some ⟨rv,0,none⟩) D.n D.n) :=
      ⟨u.k8.cell,e7.cell,by have H:=(a7.top false).cell a1;rw[b8.out,b9.out] at H;exact H⟩
     have x7:=x4h (b:=true) (j:=j) m8 a7 u.sc u.k8.cell a5.out u.gs.size HV.out.n1 (by have:=HV.out.n2;omega);rw[p6.out] at x7;have m7:=HV.out;have E1:=qh x7;clear x7;have i6:=qh u;clear u l;have x2:=qh a7;clear a7 I;have uu5:=qh k4;clear k4 J;have r6:=qh e7;clear e7 a2 h6;refine z0h (fun T=>T.cell? ⟨c8,0,none⟩=some (.pointer (some ⟨o,0,none⟩))/\T.cell? ⟨jb,0,none⟩=some (.int .i64 (j:Int))/\T.cell? ⟨g,j,none⟩=some (.slice (some ⟨rv,0,none⟩) D.n D.n)) 10 (by kernel_rfl) ?_;rw[<- q9];clear q9;refine z0c.tm 0 g9 ?_;refine z0c.tm 1 g9 ?_;refine z0c.tm 2 g9 ?_;refine z0c.tm 3 g9 ?_;refine z0c.tm 5 g9 ?_;refine z0c.tm 6 g9 ?_;refine z0c.tm 7 g9 ?_;refine z0c.tm 8 g9 ?_;refine z0c.tm 9 g9 ?_
     try simp only[Act.put,tryL]
     refine z0c.on 4 fun K U=>?_;go_simp;refine E1.out.mono ?_;rintro r g3 ⟨Rd,v0,rfl,X,e8,k,hf⟩;have F:∀ q cs t fr,m8.heap[q]?=some (.cells cs t fr)->t≠102->¬ (q=gg true):=fun q cs t fr H h2 e=>x2.out.gne_of H h2 true e.symm;have c:=i6.out.kept hf (F o _ _ _ i6.out.sc (by decide)) (F c8 _ _ _ i6.out.k8 (by decide)) (F xb _ _ _ i6.out.kx (by decide)) (F yb _ _ _ i6.out.ky (by decide)) (fun q e=>by rw[e];exact x2.out.low true);have B:=uu5.out.kept hf (F ib _ _ _ uu5.out (by decide));have z:=r6.out.kept hf (F jb _ _ _ r6.out (by decide));have Z:¬ (false=true/\j=j):=fun e=>by cases e.1
     have E:Rd false j=some rv:=(e8 false j Z).trans b9.out;have Q:(updV s1.1 true j ((s1.1 true j).getD z1f)) false j=some v:=(y7i Z).trans o9.out;have G:=k.row false j rv v a1 E Q;have d:=k.row true j v0 ((s1.1 true j).getD z1f) a5.out X (z6x _ _ _ _);have b7:o≠v0:=(z0j d.1 (show g3.heap[o]?=_ from c.sc) (by decide)).symm;have b6:rv≠o:=z0j G.1 (show g3.heap[o]?=_ from c.sc) (by decide);have f1:rv≠v0:=fun e=>Z (k.sep false j true j rv a1 a5.out E (by rw[e];exact X));have d1:∀ q,smS (((s1.1 true j).getD z1f) q):=k.sm true j _ (z6x _ _ _ _);have a3:∀ q,smS (v q):=k.sm false j v Q;have b2:ib≠o:=Bx.ne_scl B c.sc;have b1:jb≠o:=Bx.ne_scl z c.sc;have hP:PWt w o xb yb ib jb (.slice ax na cx) (.slice ay nb cy) i j g3:=⟨c.hb,c.kx,c.ky,B,z,c.nx,c.ny,b2,b1⟩;have lx:=(z0j d.1 c.kx (by decide)).symm;have ly:=(z0j d.1 c.ky (by decide)).symm;have li:=(z0j d.1 B (by decide)).symm;have lj:=(z0j d.1 z (by decide)).symm;have b3:=y0h (nf:=86) (cap:=#[.pointer (some ⟨xb,0,none⟩),.pointer (some ⟨ib,0,none⟩)]) (sel:=sel3 (x i)) (P:=PWt w o xb yb ib jb (.slice ax na cx) (.slice ay nb cy) i j) w g3 HV.out j5.out c.hb i8.out c.sc d.1 G.1 c.lc (Nat.le_trans j1.out d.2) b7 f1 b6 d1 a3 j0.out.aw hP
      (fun wa wb hp hf=>hp.fr hf c.lc (Nat.le_trans j1.out d.2) lx ly li lj) (tst3 HX.out d5)
     have A7:g3.cell? ⟨c8,0,none⟩=some (.pointer (some ⟨o,0,none⟩))/\g3.cell? ⟨jb,0,none⟩=some (.int .i64 (j:Int))/\g3.cell? ⟨g,j,none⟩=some (.slice (some ⟨rv,0,none⟩) D.n D.n) :=
      ⟨c.k8.cell,z.cell,by have H:=(k.top false).cell a1;rw[b8.out,E] at H;exact H⟩
     have d0:∀ b,gg b≠o:=fun b=>k.gne_of (show g3.heap[o]?=_ from c.sc) (by decide) b;have d8:∀ b j r,j<m->Rd b j=some r->r≠o:=fun b j r H h2=>k.rne_of (show g3.heap[o]?=_ from c.sc) (by decide) H h2;have I9:=a3;have g1:∀ (N:World) (lz:N.rowIs v0 9 D.n (fun q=>.string ((z2y D (sel3 (x i)) v D.n ((s1.1 true j).getD z1f,s1.2)).1 q))),Fr (fun q=>q=o\/q=v0) g3 N->Scl N o D (.slice a D.n cap) e6 (z2y D (sel3 (x i)) v D.n ((s1.1 true j).getD z1f,s1.2)).2 ->
       VR N w6.heap.size gg m D.n Rd (z3d D true j (sel3 (x i)) v s1).1/\WG w w6 N o c8 xb yb D (.slice a D.n cap) e6 (.slice ax na cx) (.slice ay nb cy) (z3d D true j (sel3 (x i)) v s1).2/\Bx N ib 3 (.int .i64 (i:Int))/\Bx N jb 3 (.int .i64 (j:Int)):=fun N lz fz sz=>by
      have H:=k.step2 a5.out X fz d0 d8 lz (z6b a3 D.n d1);rw[z8z] at H;exact⟨H,c.stepped fz sz d.1 d.2,B.kept fz (fun e=>e.elim b2 li),z.kept fz (fun e=>e.elim b1 lj)⟩
     have z9:=qh b3;clear b3;have D4:=qh g1;clear g1;have b9:=qh E;clear E;have Y:(z3d D true j (sel3 (x i)) v s1).1 false j=some v:=(y0a Z).trans o9.out;clear I9 F c B z Q G d b7 b6 f1 d1 a3 b2 b1 hP lx ly li lj d0 d8 hf k e8 X Z;have B9:=A7;refine U.out _ _ (.inr A7) ?_;clear U K
     try simp only[Act.put,tryL]
     refine z0c.on 10 fun K U=>?_;go_simp;refine z9.out.mono ?_;rintro r wt ⟨rfl,f4,a4,d2⟩;obtain⟨k,c,B,z⟩:=D4.out wt f4 d2 a4;refine U.out _ _ (.inl rfl) (z0c.dn ?_);clear U K B9 m7 f4 d2 a4 z9 D4 E1 g9 A7 x2 i6 uu5 r6;obtain⟨s2,a4⟩:=exq (z3d D true j (sel3 (x i)) v s1);rw[<- a4] at k c Y;have B2:=qh a4;clear a4;have r9:=qh Y;clear Y;have I:=qh k;clear k;have l:=qh c;clear c;have J:=qh B;clear B;have a2:=qh z;clear z;have ci:=J.out.cell;have cj:=a2.out.cell;have b0:=l.out.kx.cell;have a8:=l.out.ky.cell
     go_wp2_with fail
     clear ci cj b0 a8;go_roundw
     case rel=>exact⟨j+1,_,s2,by have:=g7.out;omega,by go_num,by rw[d9.out];unfold cell1 cell2 cell3;rw[if_neg j9,if_pos d5,if_neg (fun h=>j9 h.2),B2.out],I.out,l.out,J.out⟩
     simp[intOf];have:=g7.out;omega
    have j4:¬ ((i:Int)<(na:Int)):=by omega
    have ci:=J.out.cell;have cj:=a2.out.cell;have b0:=l.out.kx.cell;have a8:=l.out.ky.cell
    go_wp2_with fail
    clear ci cj b0 a8;go_roundw
    case rel=>exact⟨j+1,_,s1,by have:=g7.out;omega,by go_num,by rw[d9.out];unfold cell1 cell2 cell3;rw[if_neg j9,if_neg d5,if_neg (fun h=>d5 h.1)],I.out,l.out,J.out⟩
    simp[intOf];have:=g7.out;omega
  have K0:j=m:=by omega
  obtain⟨s1,rfl⟩:=exq (sp);obtain⟨R,rfl⟩:=exq (Rp);have O3:¬ ((j:Int)<(m:Int)):=by omega
  have I5:nb<m:=by have:=HM.out;omega
  have O2:(nb:Int)<(m:Int):=by omega
  have N0:(0:Int)<=(nb:Int):=by omega
  subst K0;have hk:na+1-i=(na-i)+1:=by omega
  have c9:=C3.out;rw[hk] at c9;unfold outG at c9;rw[if_neg (by simp),<- K6.out,<- HM.out,<- B6.out] at c9;clear hk C3;have ci:=J.out.cell;have b0:=l.out.kx.cell;have a8:=l.out.ky.cell;have hg:=(I.out.top false).cell I5;rw[b8.out] at hg;cases hf:s1.1 false nb with
  | none =>
   have hr:=(I.out.non false nb I5).2 hf;rw[hr] at hg;have m9:wr.cell? ⟨g,nb,none⟩=some (.slice none 0 0):=hg;have hq:=fun w=>v2e 102 9 underlying102 w none 0 0;rw[show (!(none:Option Addr).isNone)=false from rfl] at hq;rw[if_neg (fun h=>by rw[hf] at h;cases h.2)] at c9;have j8:=qh c9;clear c9 hf hr hg;by_cases j3:i=na
   ·have D1:na=i:=j3.symm;rw[D1] at j8;subst D1;obtain⟨d3,b5⟩:=exq (wr.heap.size);obtain⟨N,d7⟩:=exq (wr.alloc (.cells #[.int .i64 ((na:Int)+1)] 3));have a6:Fr (fun _=>False) wr N:=by rw[d7];exact Fr.alloc wr _
    have k0:Bx N d3 3 (.int .i64 ((na+1:Nat):Int)):=by rw[d7,b5];exact heap_alloc_new wr _
    have j2:=qh (l.out.kept a6 (fun e=>e) (fun e=>e) (fun e=>e) (fun e=>e) (fun _ e=>e.elim));have f7:=(I.out.one true).kept a6;rw[p6.out] at f7;have k1:=qh f7;clear f7;have k3:=qh k0;clear k0 a6
    go_wp2_with fail
    rw[<- d7,<- b5];clear d7 b5;go_roundw
    case rel=>exact⟨na+1,s1.2,g2,d3,_,_,by omega,rfl,rfl,k3.out,k1.out,j2.out,by rw[show na+1-(na+1)=na-na by omega];exact j8.out⟩
    rw[y1r k3.out.cell,HI.out];omega
   have L5:¬ ((i:Int)=(na:Int)):=by omega
   obtain⟨d3,b5⟩:=exq (wr.heap.size);obtain⟨N,d7⟩:=exq (wr.alloc (.cells #[.int .i64 ((i:Int)+1)] 3));have a6:Fr (fun _=>False) wr N:=by rw[d7];exact Fr.alloc wr _
   have k0:Bx N d3 3 (.int .i64 ((i+1:Nat):Int)):=by rw[d7,b5];exact heap_alloc_new wr _
   have j2:=qh (l.out.kept a6 (fun e=>e) (fun e=>e) (fun e=>e) (fun e=>e) (fun _ e=>e.elim));have f7:=(I.out.one true).kept a6;rw[p6.out] at f7;have k1:=qh f7;clear f7;have k3:=qh k0;clear k0 a6
   go_wp2_with fail
   rw[<- d7,<- b5];clear d7 b5;go_roundw
   case rel=>exact⟨i+1,s1.2,g2,d3,_,_,by omega,rfl,rfl,k3.out,k1.out,j2.out,by rw[show na+1-(i+1)=na-i by omega];exact j8.out⟩
   rw[y1r k3.out.cell,HI.out];omega
  | some v =>
   obtain⟨rv,m5,G,_⟩:=I.out.some_of I5 hf;rw[m5] at hg;have m9:wr.cell? ⟨g,nb,none⟩=some (.slice (some ⟨rv,0,none⟩) D.n D.n):=hg;have hq:=fun w=>v2e 102 9 underlying102 w (some ⟨rv,0,none⟩) D.n D.n;rw[show (!(some (⟨rv,0,none⟩:Addr)).isNone)=true from rfl] at hq;by_cases j3:i=na
   ·subst j3;rw[if_pos ⟨rfl,by rw[hf];rfl⟩,hf] at c9;have n3:=qh (show wgtG D st e0 i x nb y=finC D v s1.2 from c9.symm);clear c9;have a9:Fr (fun _=>False) wr wr.drew:=(Fr.refl _ _).drew;obtain⟨wd,e3⟩:=exq (wr.drew);rw[<- e3] at a9;have u:=l.out.kept a9 (fun e=>e) (fun e=>e) (fun e=>e) (fun e=>e) (fun _ e=>e.elim);have a7:=I.out.kept a9 (fun _ e=>e) (fun _ _ _ _ _ e=>e);have l8:=a9.row G (fun e=>e);have y0:wd.cell? ⟨g,nb,none⟩=some (.slice (some ⟨rv,0,none⟩) D.n D.n):=a9.cell m9 (fun e=>e);have W:wd.cell? ⟨c8,0,none⟩=some (.pointer (some ⟨o,0,none⟩))/\wd.cell? ⟨yb,0,none⟩=some (.slice ay nb cy)/\wd.cell? ⟨g,nb,none⟩=some (.slice (some ⟨rv,0,none⟩) D.n D.n):=⟨u.k8.cell,u.ky.cell,y0⟩;have uu8:=qh (z9a (v:=v) w wd HV.out j5.out u.hb i8.out u.sc l8 u.lc (z0j l8 (show wd.heap[o]?=_ from u.sc) (by decide)) (I.out.sm false nb v hf) j0.out.fin);have M8:=qh u.n8;have M0:=qh u.ny;have M4:=qh (show g≠o by rw[<- b8.out];exact a7.gne_of (show wd.heap[o]?=_ from u.sc) (by decide) false);have l:=qh u;clear u a7 l8 y0 a9;clear hf m5 G hg
    go_wp2_with fail
    refine z0h (fun T=>T.cell? ⟨c8,0,none⟩=some (.pointer (some ⟨o,0,none⟩))/\T.cell? ⟨yb,0,none⟩=some (.slice ay nb cy)/\T.cell? ⟨g,nb,none⟩=some (.slice (some ⟨rv,0,none⟩) D.n D.n)) 10 (by kernel_rfl) ?_;rw[<- e3];clear e3;refine z0c.tm 0 W ?_;refine z0c.tm 1 W ?_;refine z0c.tm 2 W ?_;refine z0c.tm 3 W ?_;refine z0c.tm 4 W ?_;refine z0c.tm 5 W ?_
    try simp only[Act.put,tryL]
    refine z0c.on 6 fun K U=>?_;go_simp;refine uu8.out.mono ?_;rintro r wf ⟨rfl,e4⟩;have c7:wf.cell? ⟨c8,0,none⟩=some (.pointer (some ⟨o,0,none⟩))/\wf.cell? ⟨yb,0,none⟩=some (.slice ay nb cy)/\wf.cell? ⟨g,nb,none⟩=some (.slice (some ⟨rv,0,none⟩) D.n D.n) :=
     ⟨e4.cell W.1 M8.out,e4.cell W.2.1 M0.out,e4.cell W.2.2 M4.out⟩
    have v4:=qh e4;clear e4;refine U.out _ _ (.inr c7) ?_;clear U K
    try simp only[Act.put,tryL]
    refine z0c.tm 7 c7 ?_;refine z0c.tm 8 c7 ?_;refine z0c.tm 9 c7 ?_
    try simp only[Act.put,tryL]
    refine z0c.on 10 fun K U=>?_;go_simp;refine U.out _ _ (.inl rfl) (z0c.dn ?_);clear U K;go_wp2;go_ret2;exact⟨l.out.hb.trans (v4.out.below l.out.hb.size (fun q e=>by rw[e];exact l.out.lc)),.inl ⟨HV.out,I8.out,G3.out,st,e0,uu6.out,by rw[n3.out];rfl⟩⟩
   have L5:¬ ((i:Int)=(na:Int)):=by omega
   rw[if_neg (fun h=>j3 h.1)] at c9;have j8:=qh c9;clear c9 hf m5 G hg;obtain⟨d3,b5⟩:=exq (wr.heap.size);obtain⟨N,d7⟩:=exq (wr.alloc (.cells #[.int .i64 ((i:Int)+1)] 3));have a6:Fr (fun _=>False) wr N:=by rw[d7];exact Fr.alloc wr _
   have k0:Bx N d3 3 (.int .i64 ((i+1:Nat):Int)):=by rw[d7,b5];exact heap_alloc_new wr _
   have j2:=qh (l.out.kept a6 (fun e=>e) (fun e=>e) (fun e=>e) (fun e=>e) (fun _ e=>e.elim));have f7:=(I.out.one true).kept a6;rw[p6.out] at f7;have k1:=qh f7;clear f7;have k3:=qh k0;clear k0 a6
   go_wp2_with fail
   rw[<- d7,<- b5];clear d7 b5;go_roundw
   case rel=>exact⟨i+1,s1.2,g2,d3,_,_,by omega,rfl,rfl,k3.out,k1.out,j2.out,by rw[show na+1-(i+1)=na-i by omega];exact j8.out⟩
   rw[y1r k3.out.cell,HI.out];omega
 have n3:=qh (show wgtG D st e0 na x nb y=finC D z1f e by
  rw[<- C3.out];by_cases d5:i=na+1
  ·rw[show na+1-i=0 by omega];rfl
  rw[show na+1-i=(na-i)+1 by omega];unfold outG;rw[if_pos (fun h=>j3 ⟨by omega,h⟩)])
 have a9:Fr (fun _=>False) wr wr.drew:=(Fr.refl _ _).drew;obtain⟨wd,e3⟩:=exq (wr.drew);rw[<- e3] at a9;have u:=l.out.kept a9 (fun e=>e) (fun e=>e) (fun e=>e) (fun e=>e) (fun _ e=>e.elim);have W:wd.cell? ⟨c8,0,none⟩=some (.pointer (some ⟨o,0,none⟩)):=u.k8.cell;have J1:=qh (z8e wd u.sc HV.out.n1 (by have:=HV.out.n2;omega));have l:=qh u;clear u a9 C3 I J;by_cases d5:i<=na
 ·have j4:(i:Int)<=(na:Int):=by omega
  have N5:¬ ((e:Int)=0):=by have:=fun h:e=0=>j3 ⟨d5,h⟩;omega
  go_wp2_with fail
  refine z0h (fun T=>T.cell? ⟨c8,0,none⟩=some (.pointer (some ⟨o,0,none⟩))) 7 (by kernel_rfl) ?_;rw[<- e3];clear e3;refine z0c.tm 0 W ?_;refine z0c.tm 1 W ?_
  try simp only[Act.put,tryL]
  refine z0c.on 2 fun K U=>?_;go_simp;refine J1.out.mono ?_;rintro r wa ⟨rfl,e2,y4,_⟩;obtain⟨A0,f5⟩:=exq (wd.heap.size);rw[<- f5] at e2;rw[<- f5];have L:=l.out.kept y4 (fun e=>e) (fun e=>e) (fun e=>e) (fun e=>e) (fun _ e=>e.elim);have c7:wa.cell? ⟨c8,0,none⟩=some (.pointer (some ⟨o,0,none⟩)):=L.k8.cell;have uu8:=qh (z9a (v:=z1f) w wa HV.out j5.out L.hb i8.out L.sc e2 L.lc (z0j e2 (show wa.heap[o]?=_ from L.sc) (by decide)) z7b j0.out.fin);have e1:=qh L;clear L e2 y4 f5;refine U.out _ _ (.inr c7) ?_;clear U K
  try simp only[Act.put,tryL]
  refine z0c.on 3 fun K U=>?_;go_simp;refine uu8.out.mono ?_;rintro r wf ⟨rfl,e4⟩;have i9:wf.cell? ⟨c8,0,none⟩=some (.pointer (some ⟨o,0,none⟩)):=e4.cell c7 e1.out.n8;have v4:=qh e4;clear e4;refine U.out _ _ (.inr i9) ?_;clear U K
  try simp only[Act.put,tryL]
  refine z0c.tm 4 i9 ?_;refine z0c.tm 5 i9 ?_;refine z0c.tm 6 i9 ?_
  try simp only[Act.put,tryL]
  refine z0c.on 7 fun K U=>?_;go_simp;refine U.out _ _ (.inl rfl) (z0c.dn ?_);clear U K;go_wp2;go_ret2;exact⟨e1.out.hb.trans (v4.out.below e1.out.hb.size (fun q e=>by rw[e];exact e1.out.lc)),.inl ⟨HV.out,I8.out,G3.out,st,e0,uu6.out,by rw[n3.out];rfl⟩⟩
 have j4:¬ ((i:Int)<=(na:Int)):=by omega
 go_wp2_with fail
 refine z0h (fun T=>T.cell? ⟨c8,0,none⟩=some (.pointer (some ⟨o,0,none⟩))) 7 (by kernel_rfl) ?_;rw[<- e3];clear e3;refine z0c.tm 0 W ?_;refine z0c.tm 1 W ?_
 try simp only[Act.put,tryL]
 refine z0c.on 2 fun K U=>?_;go_simp;refine J1.out.mono ?_;rintro r wa ⟨rfl,e2,y4,_⟩;obtain⟨A0,f5⟩:=exq (wd.heap.size);rw[<- f5] at e2;rw[<- f5];have L:=l.out.kept y4 (fun e=>e) (fun e=>e) (fun e=>e) (fun e=>e) (fun _ e=>e.elim);have c7:wa.cell? ⟨c8,0,none⟩=some (.pointer (some ⟨o,0,none⟩)):=L.k8.cell;have uu8:=qh (z9a (v:=z1f) w wa HV.out j5.out L.hb i8.out L.sc e2 L.lc (z0j e2 (show wa.heap[o]?=_ from L.sc) (by decide)) z7b j0.out.fin);have e1:=qh L;clear L e2 y4 f5;refine U.out _ _ (.inr c7) ?_;clear U K
 try simp only[Act.put,tryL]
 refine z0c.on 3 fun K U=>?_;go_simp;refine uu8.out.mono ?_;rintro r wf ⟨rfl,e4⟩;have i9:wf.cell? ⟨c8,0,none⟩=some (.pointer (some ⟨o,0,none⟩)):=e4.cell c7 e1.out.n8;have v4:=qh e4;clear e4;refine U.out _ _ (.inr i9) ?_;clear U K
 try simp only[Act.put,tryL]
 refine z0c.tm 4 i9 ?_;refine z0c.tm 5 i9 ?_;refine z0c.tm 6 i9 ?_
 try simp only[Act.put,tryL]
 refine z0c.on 7 fun K U=>?_;go_simp;refine U.out _ _ (.inl rfl) (z0c.dn ?_);clear U K;go_wp2;go_ret2;exact⟨e1.out.hb.trans (v4.out.below e1.out.hb.size (fun q e=>by rw[e];exact e1.out.lc)),.inl ⟨HV.out,I8.out,G3.out,st,e0,uu6.out,by rw[n3.out];rfl⟩⟩
end
section
open Go.RowKit Go.Deep
end
section
open Go.RowKit Go.Deep
end
section
open Go.RowKit Go.Deep
theorem StV.below {w d:World} {c:Value} {n:Nat} {st:StarO} (h:StV w c n st) (hb:Below w.heap.size w d):StV d c n st:=by
 cases st with
 | none=>exact h
 | some S=>exact⟨h.1.kept (z0b hb none),h.2⟩
end
section
open Go.RowKit Go.Deep
def SumR (w:World) (sb:Nat) (k:Int) (e:Nat):Prop:=w.heap[sb]?=some (.cells #[.int .i64 k,.bool (decide (e≠0))] 156 (0,0))
theorem SumR.lt {w:World} {c e:Nat} {k:Int} (h:SumR w c k e):c<w.heap.size:=(Array.getElem?_eq_some_iff.1 h).1
theorem SumR.c1 {w:World} {c e:Nat} {k:Int} (h:SumR w c k e) {b:Bool} (hb:decide (e≠0)=b):w.cell? ⟨c,1,none⟩=some (.bool b):=by unfold SumR at h;rw[hb] at h;simp[World.cell?,h]
theorem SumR.set {w:World} {c e e':Nat} {k:Int} (h:SumR w c k e) {b:Bool} (hb:decide (e'≠0)=b):SumR (w.setCell ⟨c,1,none⟩ (.bool b)) c k e':=by
 unfold SumR at *;rw[hb];simp[World.setCell,Array.getElem?_modify,h]
theorem SumR.kept {w d:World} {c e:Nat} {k:Int} (h:SumR w c k e) (hb:Below w.heap.size w d):SumR d c k e:=by
 unfold SumR at *;rw[hb.block c (Array.getElem?_eq_some_iff.1 h).1];exact h
end
section
open Go.RowKit Go.Deep
def LR (n c d l:Nat):Nat:=if l<c then n else if l=c then d else 0
theorem u4f {n c:Nat} (l:Nat):LR n c n l=LR n (c+1) 0 l:=by
 unfold LR;by_cases e:l<c
 ·rw[if_pos e,if_pos (by omega)]
 by_cases d:l=c
 ·rw[if_neg e,if_pos d,if_pos (by omega)]
 rw[if_neg e,if_neg d,if_neg (by omega)];split<;>rfl
structure Bz (w wr:World) (gB n d m:Nat) (R:Nat->Value) (x:ByteArray):Prop where
 om:OM wr (fun _=>False) gB 9 79 gB n R (LR n d m) (fun _ _=>x)
 gr:Below gB w wr
 wg:w.heap.size<=gB
namespace Bz
variable {w wr w4 wz wa:World} {gB n d m:Nat} {R:Nat->Value} {x:ByteArray}
theorem start (w:World) (x:ByteArray):Bz w (w.alloc (.cells (madeCells #[.slice none 0 0] n) 79)) w.heap.size n 0 0 (fun _=>.slice none 0 0) x :=
 ⟨(OM.made w (fun _=>False) (by simp) w.heap.size nlr 9 79 n _).congrL fun l _=>by unfold LR;split<;>(try split)<;>first|rfl|omega,blr.alloc nlr _,nlr⟩
theorem row (h:Bz w wr gB n d n R x):Bz w wr gB n (d+1) 0 R x:=⟨h.om.congrL fun l _=>u4f l,h.gr,h.wg⟩
end Bz
end
section
open Go.RowKit Go.Deep
def Rw1 (w:World) (g sb gc n:Nat) (Y:Nat->Nat->ByteArray) (i:Nat):Prop :=
 ∃ rb cap,w.cell? ⟨g,i,none⟩=some (.slice (some ⟨rb,0,none⟩) n cap)/\rb<gc/\rb≠sb/\n<=cap/\cap<=9223372036854775807/\∀ j,j<n->w.cell? ⟨rb,j,none⟩=some (.string (Y i j))
theorem Rw1.gr {w wr:World} {g c d n:Nat} {Y:Nat->Nat->ByteArray} {i:Nat} (h:Rw1 w g c d n Y i) (m:Gr d (some c) w wr) (C:g<d) (k:g≠c):Rw1 wr g c d n Y i:=by
 obtain⟨s,l,D,p,o,A,B,u⟩:=h;exact⟨s,l,(World.cell?_of_block (m.block g C (by simp;exact k))).trans D,p,o,A,B,fun j z=>(World.cell?_of_block (m.block s p (by simp;exact o))).trans (u j z)⟩
end
section
open Go.RowKit Go.Deep
end
section
open Go.RowKit Go.Deep
def sr8 (D:MD) (sel:Int->Int->Bool) (q:Nat):Nat->Nat->ByteArray
 | 0=>zerR D.kind
 | d+1=>if sel (D.ain q d) (D.aout q d)=true then updS (sr8 D sel q d) (D.ato q d).toNat (z1k D.kind (sr8 D sel q d (D.ato q d).toNat) (D.aw q d)).1 else sr8 D sel q d
def sm8 (D:MD) (sel:Int->Int->Bool) (q:Nat):Nat->ByteArray:=sr8 D sel q (D.na q)
def Sil8 (D:MD) (sel:Int->Int->Bool) (st:StarO) (e:Nat):Prop :=
 (NoSel D sel/\st=none/\e=0) \/
 (D.n<=60/\e=0/\∃ S,st=some S/\∀ k:KK,k.1=D.kind->∀ q p,q<D.n->p<D.n->Sv k (S q p) (CSR.starM (sils (rmOf k D) sel) D.n q p)) \/
 (e≠0/\st=none)
theorem Sil8.st {D:MD} {st:StarO} (h:Sil8 D silB st 0) {k:KK} (m:k.1=D.kind):StOk k D st:=by
 rcases h with ⟨g,rfl,_⟩|⟨_,_,S,rfl,o⟩|⟨g,_⟩
 ·intro q p c d;rw[<- y0m];exact SilOk.nosil g k q p c
 ·intro q p c d;have l:=o k m q p c d;rw[CSR.starM_congr (M':=sil (rmOf k D)) (fun i j _ _=>y0m _ i j) q p c d] at l;exact l
 exact absurd rfl g
section
open CSR
variable {D:MD} (hV:VM D) {k:KK} (hk:k.1=D.kind)
include hV hk
end
structure S8I (D:MD) (sel:Int->Int->Bool) (w wr:World) (mb g:Nat) (sv:Value) (rb:Nat->Nat) (q:Nat):Prop where
 bx:BxM wr mb D sv
 be:Below w.heap.size w wr
 gr:wr.rowIs g 79 D.n (fun i=>if i<q then .slice (some ⟨rb i,0,none⟩) D.n D.n else .slice none 0 0)
 rows:∀ i,i<q->wr.rowIs (rb i) 9 D.n (fun j=>.string (sm8 D sel i j))
 gl:w.heap.size<=g
 mg:mb≠g
structure S8R (D:MD) (sel:Int->Int->Bool) (w wr:World) (mb g:Nat) (sv:Value) (rb:Nat->Nat) (q lb:Nat) (l:Nat->ByteArray):Prop where
 bx:BxM wr mb D sv
 be:Below w.heap.size w wr
 gr:wr.rowIs g 79 D.n (fun i=>if i<q+1 then .slice (some ⟨if i=q then lb else rb i,0,none⟩) D.n D.n else .slice none 0 0)
 rows:∀ i,i<q->wr.rowIs (rb i) 9 D.n (fun j=>.string (sm8 D sel i j))/\rb i≠lb
 rl:wr.rowIs lb 9 D.n (fun j=>.string (l j))
 gl:w.heap.size<=g
 mg:mb≠g
 ll:w.heap.size<=lb
 ml:mb≠lb
 nl:g≠lb
section
variable {D:MD} {sel:Int->Int->Bool} {w wr wz:World} {mb g lb q:Nat} {sv:Value} {rb:Nat->Nat} {l:Nat->ByteArray}
theorem S8R.done (h:S8R D sel w wr mb g sv rb q lb (sr8 D sel q (D.na q))):S8I D sel w wr mb g sv (fun i=>if i=q then lb else rb i) (q+1) :=
 ⟨h.bx,h.be,h.gr,fun i hi=>by
  by_cases e:i=q
  ·subst e;simp only[if_pos];exact h.rl
  simp only[if_neg e];exact(h.rows i (by omega)).1,h.gl,h.mg⟩
end
end
section
open Go.RowKit Go.Deep
theorem x9j {n:Nat} {v:Value} {x:Nat->Int} (w:World) (D:Si none w v n x) (hn:(n:Int)<=9223372036854775807) :
  Calls prog 46 #[v] w (fun r w'=>r=.returned (.bool (isWord n x))/\w'=w):=by
 obtain⟨a,J,b,F,rfl,C,X,K,hb,d⟩:=D.open;unfold maxLen at K;have Q:=qh C;clear C;have L:=qh d;clear d D hb;by_cases I:(200:Int)<(n:Int)
 ·have s:isWord n x=false:=by unfold isWord;rw[show decide (n<=200)=false by simp;omega];rfl
  rw[s];clear s
  go_enter func46,ntmps46
  go_wp2;go_ret;exact⟨rfl,rfl⟩
 have P:decide ((200:Int)<(n:Int))=false:=by simp;omega
 have H:n<=200:=by omega
 have s:isWord n x=y5q n x 500:=by unfold isWord;rw[show decide (n<=200)=true by simp;omega];simp
 rw[s];clear s I
 go_enter func46,ntmps46
 go_wp2_with fail
 go_loop [3] (fun i=>∃ q:Nat,q<=n/\i=.int .i64 (q:Int)/\∀ j,j<q->1<=x j/\x j<=500) (fun i=>n-(intOf i).toNat)
 case atStart=>exact⟨0,Nat.zero_le _,rfl,fun j R=>by omega⟩
 obtain⟨q,W,rfl,A⟩:=hrel;have u:=qh A;clear A;by_cases o:q<n
 ·have G:(q:Int)<(n:Int):=by omega
  have B:(0:Int)<=(q:Int):=by omega
  obtain rfl:=Q.out (by omega);have c0:=L.out q o;obtain⟨p,l⟩:=exq (x q);rw[<- l] at c0;have m:=qh l;clear l;by_cases U:p<1
  ·have c:y5q n x 500=false:=x1t.2 fun h=>by have:=(h q o).1;rw[<- m.out] at this;omega
   have k:=qh c;clear c;go_wp2;go_ret;exact⟨z0v k.out.symm,rfl⟩
  have E:decide (p<1)=false:=by simp;omega
  by_cases T:(500:Int)<p
  ·have c:y5q n x 500=false:=x1t.2 fun h=>by have:=(h q o).2;rw[<- m.out] at this;omega
   have k:=qh c;clear c;go_wp2;go_ret;exact⟨z0v k.out.symm,rfl⟩
  have O:decide ((500:Int)<p)=false:=by simp;omega
  go_wp2
  go_round
  case rel=>exact⟨q+1,by omega,by go_num,fun j R=>by
   by_cases e:j=q
   ·subst e;rw[<- m.out];omega
   exact u.out j (by omega)⟩
  simp[intOf];omega
 have z:q=n:=by omega
 have S:¬ ((q:Int)<(n:Int)):=by omega
 have g:y5q n x 500=true:=y5h.2 fun i hi=>u.out i (by rw[z];exact hi);have N:=qh g;clear g z;go_wp2;go_ret;exact⟨z0v N.out.symm,rfl⟩
end
section
open Go.RowKit Go.Deep
def Wg8G (D:MD) (na:Nat) (x:Nat->Int) (nb:Nat) (y:Nat->Int) (w:World) (r:Ending) (w':World):Prop :=
 Below w.heap.size w w'/\((VM D/\isWord na x=true/\isWord nb y=true/\∃ st e z,Sil8 D silB st e/\z=(if e≠0 then (⟨#[]⟩,e) else v7d D st na x nb y)/\r=.returned (.tuple #[.string z.1,.int .i64 (z.2:Int)]))\/(¬ (VM D/\isWord na x=true/\isWord nb y=true)/\r=.returned (.tuple #[.string ⟨#[]⟩,.int .i64 1])))
end
section
open Go.RowKit Go.Deep
def Wv (D:MD) (na:Nat) (x:Nat->Int) (nb:Nat) (y:Nat->Int) (z:ByteArray × Nat):Prop:=z.2=0->∀ k:KK,k.1=D.kind->Sv k z.1 (rel (rmOf k D) (ls x na 0) (ls y nb 0))
def WvE (D:MD) (na:Nat) (x:Nat->Int) (nb:Nat) (y:Nat->Int) (w:World) (r:Ending) (w':World):Prop :=
 Below w.heap.size w w'/\∃ z:ByteArray × Nat,r=.returned (.tuple #[.string z.1,.int .i64 (z.2:Int)])/\((VM D/\isWord na x=true/\isWord nb y=true/\Wv D na x nb y z)\/(¬ (VM D/\isWord na x=true/\isWord nb y=true)/\z=(⟨#[]⟩,1)))
theorem isWord.ne {n:Nat} {x:Nat->Int} (h:isWord n x=true):∀ i,i<n->x i≠0:=fun i hi=>by
 unfold isWord at h;rw[Bool.and_eq_true] at h;have c:=y5h.1 h.2 i hi;omega
theorem WgtX.v {D:MD} {na:Nat} {x:Nat->Int} {nb:Nat} {y:Nat->Int} {w:World} {r:Ending} {m:World} (h:WgtX D na x nb y w r m):WvE D na x nb y w r m:=by
 refine⟨h.1,?_⟩
 rcases h.2 with ⟨i,p,o,st,s,d,c⟩|⟨u,c⟩
 ·refine⟨_,c,.inl ⟨i,p,o,fun g k l=>?_⟩⟩;by_cases j:s=0
  ·subst j;exact(v9w i l (d.st l) (isWord.ne p) (isWord.ne o) g).2
  exact absurd (x4n (show (outG D st na x nb y (na+1) 0 _ s).2=0 from g)) j
 exact⟨(⟨#[]⟩,1),c,.inr ⟨u,rfl⟩⟩
theorem Wg8G.v {D:MD} {na:Nat} {x:Nat->Int} {nb:Nat} {y:Nat->Int} {w:World} {r:Ending} {o:World} (h:Wg8G D na x nb y w r o):WvE D na x nb y w r o:=by
 refine⟨h.1,?_⟩
 rcases h.2 with ⟨l,s,p,st,A,z,j,c,g⟩|⟨u,g⟩
 ·refine⟨z,g,.inl ⟨l,s,p,fun d k m=>?_⟩⟩;by_cases i:A=0
  ·subst i;rw[if_neg (by simp)] at c;rw[c] at d ⊢;exact v8n l m (j.st m) (isWord.ne s) (isWord.ne p) d
  rw[if_pos i] at c;rw[c] at d;exact absurd d i
 exact⟨(⟨#[]⟩,1),g,.inr ⟨u,rfl⟩⟩
theorem Wv.eq {D j:MD} {na:Nat} {x:Nat->Int} {nb:Nat} {y:Nat->Int} {d:Nat} {m:Nat->Int} {g:Nat} {p:Nat->Int} {z l:ByteArray × Nat} (h:Wv D na x nb y z) (E:Wv j d m g p l) (u:VM D) (A:j.kind=D.kind)
  (C:∀ k:KK,k.1=D.kind->rel (rmOf k D) (ls x na 0) (ls y nb 0)=rel (rmOf k j) (ls m d 0) (ls p g 0)) (s:z.2=0) (i:l.2=0):z.1=l.1:=by
 obtain⟨k,c⟩:=u.kk;have o:=h s k c;have B:=E i k (c.trans A.symm);rw[C k c] at o;exact o.text B
end
section
open Go.RowKit Go.Deep
def Box4 (w:World) (b:Nat) (kd st:Int) (ld:ByteArray) (sv:Value):Prop:=w.heap[b]?=some (.cells #[.int .i64 kd,.int .i64 st,.string ld,sv] 24 (0,0))
theorem z0w (w:World) (b:Nat) (g c d i:Value) {j m k l:Value} {t:TypeId} (h:w.heap[b]?=some (.cells #[j,m,k,l] t (0,0))):(w.setCells b 0 [g,c,d,i]).heap[b]?=some (.cells #[g,c,d,i] t (0,0)):=by
 simp[World.setCells,World.setCell,Array.getElem?_modify,h]
theorem z0d {B b:Nat} {a w:World} (h:Below B a w) (hb:B<=b) (i c g d:Value):Below B a (w.setCells b 0 [i,c,g,d]) :=
 (((h.setCell (p:=⟨b,0,none⟩) hb i).setCell (p:=⟨b,0+1,none⟩) hb c).setCell (p:=⟨b,0+1+1,none⟩) hb g).setCell (p:=⟨b,0+1+1+1,none⟩) hb d
theorem u3s {w:World} {b:Nat} {c i d g:Value} {t:TypeId} (h:w.heap[b]?=some (.cells #[c,i,d,g] t (0,0))):w.there b 0 4:=by
 intro j k;have:j=0\/j=1\/j=2\/j=3:=by omega
 rcases this with rfl|rfl|rfl|rfl<;>simp[World.cell?,World.frozen?,h]
theorem Box4.range {w:World} {b:Nat} {g st:Int} {d:ByteArray} {sv:Value} (h:Box4 w b g st d sv):w.rangeAt b 0 [.int .i64 g,.int .i64 st,.string d,sv]:=by
 intro j v c;unfold Box4 at h;have i:j<4:=by have:=(List.getElem?_eq_some_iff.1 c).1;simpa using this
 have:j=0\/j=1\/j=2\/j=3:=by omega
 rcases this with rfl|rfl|rfl|rfl<;>(simp at c;subst c;simp[World.cell?,h])
theorem x1f {w:World} {b:Nat} {d st:Int} {c:ByteArray} {sv:Value} (h:Box4 w b d st c sv):(loadVar 24 ⟨b,0,none⟩).run prog w=.ok (.agg #[.int .i64 d,.int .i64 st,.string c,sv]) w :=
 run_loadVar_mid (P:=prog) w b 0 24 [.int .i64 d,.int .i64 st,.string c,sv] _ h.range underlying24 rfl (by kernel_rfl)
theorem x8f {fn:Func} {p:Tmp} (h:fn.results=#[.cell p 24]) (c:Array Value) {w:World} {b:Nat} {d st:Int} {g:ByteArray} {sv:Value} (i:c.getD p undef=.pointer (some ⟨b,0,none⟩)) (hb:Box4 w b d st g sv) :
  (results fn c).run prog w=.ok (.agg #[.int .i64 d,.int .i64 st,.string g,sv]) w:=by
 rw[z7q h,i];show ((loadVar 24 ⟨b,0,none⟩).run prog w)=_;exact x1f hb
theorem z0k {fn:Func} {p u:Tmp} (h:fn.results=#[.cell p 24,.tmp u]) (c:Array Value) {w:World} {b:Nat} {g st:Int} {d:ByteArray} {sv v:Value} (i:c.getD p undef=.pointer (some ⟨b,0,none⟩)) (j:c.getD u undef=v) (hb:Box4 w b g st d sv) :
  (results fn c).run prog w=.ok (.tuple #[.agg #[.int .i64 g,.int .i64 st,.string d,sv],v]) w:=by
 rw[results_cell_tmp h,i,j];show ((loadVar 24 ⟨b,0,none⟩).run prog w).andThen _=_;rw[x1f hb];rfl
end
section
open Go.RowKit Go.Deep
theorem y2j {P:Program} (w:World) (dT H F d:TypeId) (s n:Nat) (g o:Nat) (u:Option Addr) (k:Nat) (c:Array Value) (t:TypeId) (cs:List Value)
  (z:P.underlying dT=some (.slice d)) (B:(P.info? d).map (·.size)=some s) (E:w.heap[g]?=some (.cells c t (0,0))) (J:cs.length=n*s) (A:c.size=n*s)
  (m:0<n->∃ a,u=some a/\∀ j v,cs[j]?=some v->w.cell? (a.add j)=some v) (G:∀ v ∈ cs,v.oneCell'=true) :
  (Builtin.copy_ #[dT,H] F #[.slice (some ⟨g,0,none⟩) n o,.slice u n k]).run P w=.ok (goInt n) (w.setRow g cs.toArray):=by
 have h:=run_storeCells_at P g 0 t cs 0 c w E (by omega) G;have D:(c.toList.take (0+0)++cs++c.toList.drop (0+0+cs.length)).toArray=cs.toArray:=by
  rw[List.drop_eq_nil_of_le (by simp;omega)];simp
 rw[D] at h;cases l:P.info? d with
 | none=>simp[l] at B
 | some i =>
  have hi:i.size=s:=by simpa [l] using B
  by_cases I:n=0
  ·subst I;obtain rfl:cs=[]:=List.eq_nil_of_length_eq_zero (by omega);have p:∀ (x:Addr),(loadCells x 0).run P w=.ok #[] w:=fun x=>by simpa using run_loadCells_list (P:=P) w x [] (by simp)
   cases u with
   | none=>simp[Builtin.copy_,run_underlying z,Builtin.lenOf,Builtin.firstCells,sizeOf,typeInfo,l,h]
   | some a=>simp[Builtin.copy_,run_underlying z,Builtin.lenOf,Builtin.firstCells,sizeOf,typeInfo,l,p,h]
  obtain⟨a,rfl,C⟩:=m (by omega);have p:=run_loadCells_list (P:=P) w a cs C;rw[J] at p;simp[Builtin.copy_,run_underlying z,Builtin.lenOf,Builtin.firstCells,sizeOf,typeInfo,l,hi,p,h]
theorem z7c {P:Program} (t e:TypeId) (z:Value) (s c:Nat) (A:P.underlying t=some (.slice e)) (d:(P.info? e).map (fun i=>(i.zero,i.size,i.bytes))=some (some z,s,c))
  (m kc:IntKind) (n:Nat) (j:c*n<=281474976710656) (p:n<=9223372036854775807) (w:World) :
  (Instr.makeSlice t (.int m (n:Int)) (.int kc (n:Int))).run P w=.ok (.slice (some ⟨w.heap.size,0,none⟩) n n) (w.alloc (.cells (madeCells z.cells (n*s)) e)):=by
 obtain⟨i,hi,g⟩:=Option.map_eq_some_iff.1 d;simp only[Prod.mk.injEq] at g;obtain⟨o,u,hb⟩:=g;have k:(i.bytes:Int)*(n:Int)<=281474976710656:=by
  have h:((i.bytes*n:Nat):Int)<=281474976710656:=by rw[hb];omega
  rwa [Int.natCast_mul] at h
 have l:=run_make (P:=P) w t e i z A hi o m kc n n (by omega) (Int.le_refl _) k (by omega);simp only[Int.toNat_natCast,u] at l;exact l
theorem v5j (z:Array Value) (d:0<z.size) (n:Nat):(madeCells z (n*z.size)).toList=cat (fun _=>z.toList) n:=by
 refine List.ext_getElem? fun i=>?_;by_cases h:i<n*z.size
 ·have g:i % z.size<z.size:=Nat.mod_lt _ d;have k:i / z.size<n:=(Nat.div_lt_iff_lt_mul d).2 h;have l:i / z.size*z.size+i % z.size=i:=by rw[Nat.mul_comm];exact Nat.div_add_mod i z.size
  have j:=z5p (c:=fun _=>z.toList) (s:=z.size) (fun _=>by simp) g k;rw[l] at j;rw[j];have m:i<(madeCells z (n*z.size)).toList.length:=by simp[size_madeCells];exact h
  rw[List.getElem?_eq_getElem m];simp[madeCells,g]
 rw[List.getElem?_eq_none (by simp[size_madeCells];omega),List.getElem?_eq_none (by rw[z4r (s:=z.size) (fun _=>by simp)];omega)]
def z6z:Value:=.agg #[.int .i64 0,.int .i64 0,.string ⟨#[]⟩,.slice none 0 0]
theorem cells4 {w:World} {rb:Nat} {g v1 d c:Value} {t:TypeId} (h:w.heap[rb]?=some (.cells #[g,v1,d,c] t (0,0))):(w.cell? ⟨rb,0,none⟩=some g/\w.cell? ⟨rb,1,none⟩=some v1/\w.cell? ⟨rb,2,none⟩=some d/\w.cell? ⟨rb,3,none⟩=some c)/\∀ j,w.frozen? ⟨rb,j,none⟩=false :=
 ⟨⟨by simp[World.cell?,h],by simp[World.cell?,h],by simp[World.cell?,h],by simp[World.cell?,h]⟩,fun j=>by simp[World.frozen?,h]⟩
theorem x9x:(prog.info? 57).map (fun i=>(i.zero,i.size,i.bytes))=some (some (.agg #[.string ⟨#[]⟩,.slice none 0 0]),2,40):=by kernel_rfl
theorem x9k:(prog.info? 59).map (fun i=>(i.zero,i.size,i.bytes))=some (some (.agg #[.int .i64 0,.int .i64 0,.string ⟨#[]⟩,.int .i64 0]),4,40):=by kernel_rfl
def MkE (V:Prop) (D:MD) (e:Nat) (w:World) (r:Ending) (w':World):Prop :=
 Below w.heap.size w w'/\((V/\∃ sv R,r=.returned (.tuple #[.agg #[.int .i64 D.kind,.int .i64 D.start,.string D.lead,sv],.int .i64 0])/\OwM w' w.heap.size sv D R)\/(¬ V/\r=.returned (.tuple #[z6z,.int .i64 (e:Int)])))
end
section
open Go.RowKit Go.Deep
theorem z9k {o:Option TypeInfo} {z:Value} {s b:Nat} (h:o.map (fun i=>(i.zero,i.size,i.bytes))=some (some z,s,b)):∃ i,o=some i/\i.zero=some z/\i.size=s/\i.bytes=b:=by
 cases o with
 | none=>cases h
 | some i=>simp at h;exact⟨i,rfl,h.1,h.2.1,h.2.2⟩
def RowB (w:World) (q:Nat):Prop:=∃ cs t fr,w.heap[q]?=some (.cells cs t fr)/\(t=57\/t=59)
structure Kt (db:Nat) (w w':World):Prop where
 os:w'.os=w.os
 tape:w'.tape=w.tape
 output:w'.output=w.output
 size:w.heap.size<=w'.heap.size
 block:∀ q,q<w.heap.size->q≠db->¬ RowB w q->w'.heap[q]?=w.heap[q]?
theorem Kt.refl (db:Nat) (w:World):Kt db w w:=⟨rfl,rfl,rfl,nlr,fun _ _ _ _=>rfl⟩
theorem Kt.trans {db:Nat} {w j i:World} (h:Kt db w j) (k:Kt db j i):Kt db w i :=
 ⟨k.os.trans h.os,k.tape.trans h.tape,k.output.trans h.output,Nat.le_trans h.size k.size,fun q g d c=>(k.block q (by have:=h.size;omega) d (fun ⟨l,t,fr,o,m⟩=>c ⟨l,t,fr,by rw[<- h.block q g d c];exact o,m⟩)).trans (h.block q g d c)⟩
theorem Kt.of_fr {db:Nat} {w c:World} (h:Fr (fun q=>q=db) w c):Kt db w c:=⟨h.os,h.tape,h.output,h.size,fun q d g _=>h.block q d g⟩
theorem Kt.of_own {db B:Nat} {w k:World} {e:TypeId} {s n:Nat} {v:Value} {xs:List Value} (h:w.ownsRow B e s v n xs) (p:e=57\/e=59) (c:w.grownBy k v.ownBlock):Kt db w k :=
 ⟨c.os,c.tape,c.output,c.size,fun q l _ o=>c.block q l (fun j=>by
  rcases h.2 with ⟨rfl,_⟩|⟨g,m,d,rfl,_,i,_⟩
  ·cases j
  have u:q=g:=by simpa [Value.ownBlock] using j
  subst u;exact o ⟨d,e,_,i,p⟩)⟩
theorem z2p {w:World} {B:Nat} {e t:TypeId} {s n b:Nat} {v:Value} {xs:List Value} {cs:Array Value} {fr:Nat × Nat} (h:w.ownsRow B e s v n xs) (hb:w.heap[b]?=some (.cells cs t fr)) (k:t≠e):v.ownBlock≠some b:=by
 rcases h.2 with ⟨rfl,_⟩|⟨g,i,d,rfl,_,j,_⟩
 ·simp[Value.ownBlock]
 intro c;simp[Value.ownBlock] at c;subst c;rw[j] at hb;simp at hb;exact k hb.2.1.symm
def bcs (D:MD) (sv:Value) (one:ByteArray) (ac fl:Int):Array Value:=#[.int .i64 D.kind,.int .i64 D.start,.string D.lead,sv,.string one,.int .i64 ac,.int .i64 fl]
structure Bld (w:World) (B db:Nat) (D:MD) (R:Nat->Value) (sv:Value) (one:ByteArray) (ac fl:Int):Prop where
 blk:w.heap[db]?=some (.cells (bcs D sv one ac fl) 113 (0,0))
 own:OwM w B sv D R
 low:B<=db
theorem Bld.lt {w:World} {B db:Nat} {D:MD} {R:Nat->Value} {sv:Value} {one:ByteArray} {ac fl:Int} (h:Bld w B db D R sv one ac fl):db<w.heap.size:=(Array.getElem?_eq_some_iff.1 h.blk).1
section
variable {w:World} {db:Nat} {D:MD} {sv:Value} {one:ByteArray} {ac fl:Int} {t:TypeId} (h:w.heap[db]?=some (.cells (bcs D sv one ac fl) t (0,0)))
include h
theorem BlkB.c0:w.cell? ⟨db,0,none⟩=some (.int .i64 D.kind):=by unfold bcs at h;simp[World.cell?,h]
theorem BlkB.c1:w.cell? ⟨db,1,none⟩=some (.int .i64 D.start):=by unfold bcs at h;simp[World.cell?,h]
theorem BlkB.c2:w.cell? ⟨db,2,none⟩=some (.string D.lead):=by unfold bcs at h;simp[World.cell?,h]
theorem BlkB.c3:w.cell? ⟨db,3,none⟩=some sv:=by unfold bcs at h;simp[World.cell?,h]
theorem BlkB.c4:w.cell? ⟨db,4,none⟩=some (.string one):=by unfold bcs at h;simp[World.cell?,h]
theorem BlkB.c5:w.cell? ⟨db,5,none⟩=some (.int .i64 ac):=by unfold bcs at h;simp[World.cell?,h]
theorem BlkB.c6:w.cell? ⟨db,6,none⟩=some (.int .i64 fl):=by unfold bcs at h;simp[World.cell?,h]
theorem BlkB.fz (j:Nat):w.frozen? ⟨db,j,none⟩=false:=by simp[World.frozen?,h]
theorem BlkB.set3 (v:Value):(w.setCell ⟨db,3,none⟩ v).heap[db]?=some (.cells (bcs D v one ac fl) t (0,0)):=by
 unfold bcs at h ⊢;simp[World.setCell,Array.getElem?_modify,h]
theorem BlkB.set5 (a:Int):(w.setCell ⟨db,5,none⟩ (.int .i64 a)).heap[db]?=some (.cells (bcs D sv one a fl) t (0,0)):=by
 unfold bcs at h ⊢;simp[World.setCell,Array.getElem?_modify,h]
theorem BlkB.set6 (a:Int):(w.setCell ⟨db,6,none⟩ (.int .i64 a)).heap[db]?=some (.cells (bcs D sv one ac a) t (0,0)):=by
 unfold bcs at h ⊢;simp[World.setCell,Array.getElem?_modify,h]
end
def Fre (w:World) (sv:Value) (R:Nat->Value) (n b:Nat):Prop:=b<w.heap.size/\sv.ownBlock≠some b/\∀ i,i<n->(R i).ownBlock≠some b
def FrK (db:Nat) (w:World) (sv:Value) (R:Nat->Value) (n:Nat) (w':World) (sv':Value) (R':Nat->Value) (n':Nat):Prop:=∀ b,b≠db->Fre w sv R n b->Fre w' sv' R' n' b/\w'.heap[b]?=w.heap[b]?
def BlE (B db:Nat) (n:Nat) (R:Nat->Value) (sv:Value) (D':MD) (one:ByteArray) (ac' fl:Int) (w w':World):Prop:=(∃ R' sv',Bld w' B db D' R' sv' one ac' fl/\FrK db w sv R n w' sv' R' D'.n)/\Below B w w'
theorem y7w {w:World} {b:Nat} {cs:Array Value} {t:TypeId} {fr:Nat × Nat} (h:w.heap[b]?=some (.cells cs t fr)):∀ j u,cs.toList[j]?=some u->w.cell? ((⟨b,0,none⟩:Addr).add j)=some u:=by
 intro j u c;rw[Addr.add_lit,Nat.zero_add];simp[World.cell?,h]
 simpa using c
theorem u3r {f:ByteArray}:∀ u ∈ [Value.string f,Value.slice none 0 0],u.oneCell'=true:=by intro u c;simp at c;rcases c with rfl|rfl<;>rfl
theorem x6t {B db:Nat} {D:MD} {R:Nat->Value} {sv:Value} (f:ByteArray) (w:World) {one:ByteArray} {ac fl:Int} (h:Bld w B db D R sv one ac fl) (hB:B<=w.heap.size) (hn:D.n<=100000) :
  Calls prog 91 #[.pointer (some ⟨db,0,none⟩),.string f] w (fun r w'=>r=.returned (.int .i64 (D.n:Int))/\BlE B db D.n R sv (D.state f) one ac fl w w'):=by
 obtain⟨i0,hi,S,Q,N⟩:=z9k x9x;obtain⟨A,j⟩:=exq (w.alloc (.cells #[.string f,.slice none 0 0] 57));obtain⟨H,hH⟩:=exq (w.heap.size);have U:w.grownBy A none:=by rw[j];exact World.grownBy_alloc _ _ _
 have o:A.ownsRow B 57 2 sv D.n (cat (st2 D R) D.n):=by rw[j];exact World.ownsRow.alloc h.own.top _
 have L:A.heap[H]?=some (.cells #[.string f,.slice none 0 0] 57 (0,0)):=by rw[j,hH];exact heap_alloc_new w _
 have m:A.heap[db]?=some (.cells (bcs D (sv) one ac fl) 113 (0,0)):=by rw[j,blk_alloc_lt _ _ _ h.lt];exact h.blk
 have c4:A.cell? ⟨db,3,none⟩=some sv:=BlkB.c3 m;have b3:w.cell? ⟨db,3,none⟩=some sv:=BlkB.c3 h.blk;have b4:A.heap.size=H+1:=by rw[j,hH];simp
 obtain⟨sa,sc,a3,_,_⟩:=z1h h.own.top;subst a3;have u:∀ z,(w.alloc (.cells #[.string f,.slice none 0 0] 57)).grownBy z (Value.slice sa D.n sc).ownBlock->z.heap[db]?=some (.cells (bcs D (.slice sa D.n sc) one ac fl) 113 (0,0)):=fun z hg=>by
  rw[<- j] at hg;exact(hg.block db (lt_of_block m) (fun e=>z2p o m (by decide) e.symm)).trans m
 have P:=qh u;clear u;have J:=qh h;clear h;have b2:=qh o;clear o;have b6:=qh L;clear L;have b5:=qh m;clear m;have b8:=qh U;clear U;have HI:=qh hi;have a5:=qh S;have a6:=qh Q;have a2:=qh N;clear hi S Q N;have c8:=qh hH;clear hH;have c7:=qh j
 go_enter func91,ntmps91
 go_wp2_with (at_builtin;refine wpList_append_lies _ rfl (.tmp 10) (.tmp 13) 22 rfl B 57 i0 (.agg #[.string ⟨#[]⟩,.slice none 0 0]) 2 40 underlying22 HI.out a5.out a6.out a2.out rfl (by omega) (.slice sa D.n sc) D.n _ (by first|rfl|simp[Act.eval,Act.put]) (World.ownsRow.alloc J.out.own.top _) ⟨w.heap.size,0,none⟩ 1 1 [.string f,.slice none 0 0] (by first|rfl|simp[Act.eval,Act.put]) rfl (y7w (cs:=#[.string f,.slice none 0 0]) (heap_alloc_new w _)) u3r (by omega) (by unfold maxLen;omega) (by omega) (by simp;omega) _ rfl ?_;intro F K z s c Y b1;have l:=P.out z c;have e4:=BlkB.c3 l;have f4:=BlkB.fz l 3)
 have g:z.ownsRow B 57 2 (.slice (some ⟨F,0,none⟩) (D.n+1) K) (D.n+1) (cat (st2 D R) D.n++[.string f,.slice none 0 0]):=s;have G:=J.out.own.state g c;have T:(Value.slice (some ⟨F,0,none⟩) (D.n+1) K).ownBlock≠some db:=z2p g l (by decide);have Z:∀ i,i<(D.state f).n->((fun i=>if i=D.n then Value.slice none 0 0 else R i) i).ownBlock≠some db:=fun i hi=>z2p (G.row i hi) l (by decide)
 obtain⟨E,d⟩:=exq (z.setCell ⟨db,3,none⟩ (.slice (some ⟨F,0,none⟩) (D.n+1) K));have C:OwM E B (.slice (some ⟨F,0,none⟩) (D.n+1) K) (D.state f) (fun i=>if i=D.n then .slice none 0 0 else R i):=by rw[d];exact G.other (p:=⟨db,3,none⟩) T Z _
 have I:E.heap[db]?=some (.cells (bcs D (.slice (some ⟨F,0,none⟩) (D.n+1) K) one ac fl) 113 (0,0)):=by rw[d];exact BlkB.set3 l _
 have X:Kt db w E:=by
  have h1:Kt db w (w.alloc (.cells #[.string f,.slice none 0 0] 57)):=Kt.of_fr (Fr.alloc _ _);have h2:=Kt.of_own (db:=db) (World.ownsRow.alloc J.out.own.top (.cells #[.string f,.slice none 0 0] 57)) (.inl rfl) c;rw[d];exact(h1.trans h2).trans (Kt.of_fr ((Fr.refl (fun q=>q=db) z).set (p:=⟨db,3,none⟩) (.inl rfl) _))
 have O:FrK db w (.slice sa D.n sc) R D.n E (.slice (some ⟨F,0,none⟩) (D.n+1) K) (fun i=>if i=D.n then .slice none 0 0 else R i) (D.n+1):=by
  intro b hb hf;have W:b<(w.alloc (.cells #[.string f,.slice none 0 0] 57)).heap.size:=by have:=hf.1;simp;omega
  refine⟨⟨by rw[d,nblk_setCell];exact Nat.lt_of_lt_of_le W c.size,?_,fun i hi=>?_⟩,?_⟩
  ·intro e;have e2:F=b:=by simpa [Value.ownBlock] using e
   subst e2
   rcases Y with h1|h1
   ·exact hf.2.1 h1
   omega
  ·dsimp only
   split
   ·simp[Value.ownBlock]
   exact hf.2.2 i (by omega)
  rw[d,z0e hb];exact(c.block b W (fun e=>hf.2.1 e.symm)).trans (blk_alloc_lt _ _ _ hf.1)
 have a7:=qh O;clear O;have a1:Below B w E:=by
  rw[d];exact((((Below.refl B w).alloc hB (.cells #[.string f,.slice none 0 0] 57)).grown c (by simp;omega) (fun k hk=>(World.ownsRow.lt (World.ownsRow.alloc J.out.own.top (.cells #[.string f,.slice none 0 0] 57)) k hk).1)).setCell (p:=⟨db,3,none⟩) J.out.low _)
 have b0:=qh C;clear C G;have b9:=qh X;clear X;have a8:=qh a1;clear a1 g s c Y b1 T Z;have c3:=BlkB.c3 I;have a9:=qh I;clear I l;rw[<- d];have b7:=qh d;clear d e4 f4;have a4:((D.n+1:Nat):Int)-1=(D.n:Int):=by omega
 go_wp2;go_ret;exact⟨by first|rfl|(rw[a4])|(go_num),⟨_,_,⟨a9.out,b0.out,J.out.low⟩,a7.out⟩,a8.out⟩
theorem y7z {a b t:Int} {x:ByteArray}:∀ u ∈ [Value.int .i64 a,Value.int .i64 b,Value.string x,Value.int .i64 t],u.oneCell'=true:=by intro u c;simp at c;rcases c with rfl|rfl|rfl|rfl<;>rfl
theorem v6p {B db q:Nat} {D:MD} {R:Nat->Value} {sv:Value} (a b t:Int) (x:ByteArray) (w:World) {one:ByteArray} {ac fl:Int} (h:Bld w B db D R sv one ac fl) (f4:0<=ac) (g2:ac<=100000) (hB:B<=w.heap.size) (hq:q<D.n) (hn:D.n<=100000) (g6:D.na q<=100000) :
  Calls prog 92 #[.pointer (some ⟨db,0,none⟩),.int .i64 (q:Int),.agg #[.int .i64 a,.int .i64 b,.string x,.int .i64 t]] w (fun r w'=>r=.returned (.tuple #[])/\BlE B db D.n R sv (D.arc q a b x t) one (ac+1) fl w w'):=by
 obtain⟨i0,hi,d3,d2,d7⟩:=z9k x9k;have g1:(q:Int)<(D.n:Int):=by omega
 have f2:(0:Int)<=(q:Int):=by omega
 obtain⟨g,S,rfl,_,_,_,_⟩:=z7v h.own.top (by omega);obtain⟨ra,rc,b0,_,_⟩:=z1h (h.own.row q hq);obtain⟨w1,A⟩:=exq (w.alloc (.cells #[.int .i64 a,.int .i64 b,.string x,.int .i64 t] 59));obtain⟨l,m⟩:∃ l,l=(w1.setCell ⟨db,5,none⟩ (.int .i64 (ac+1))).drew:=⟨_,rfl⟩;obtain⟨H,hH⟩:=exq (w.heap.size);have a6:l.heap.size=H+1:=by
  rw[m];show (w1.setCell ⟨db,5,none⟩ (.int .i64 (ac+1))).heap.size=_;rw[nblk_setCell,A,hH];simp
 have u:w1.heap[db]?=some (.cells (bcs D (.slice (some ⟨g,0,none⟩) D.n S) one ac fl) 113 (0,0)):=by rw[A,blk_alloc_lt _ _ _ h.lt];exact h.blk
 have c5:=BlkB.c5 u;have f5:=BlkB.fz u 5;rw[A] at c5 f5;have b6:Fr (fun q=>q=db) w w1:=by rw[A];exact Fr.alloc _ _
 have d4:Fr (fun q=>q=db) w l:=by rw[m];exact(b6.set (p:=⟨db,5,none⟩) (.inl rfl) _).drew
 have N:l.heap[H]?=some (.cells #[.int .i64 a,.int .i64 b,.string x,.int .i64 t] 59 (0,0)):=by
  rw[m];show (w1.setCell ⟨db,5,none⟩ (.int .i64 (ac+1))).heap[H]?=_;rw[z0e (show H≠db by have:=h.lt;omega),A,hH];exact heap_alloc_new w _
 have a3:l.heap[db]?=some (.cells (bcs D (.slice (some ⟨g,0,none⟩) D.n S) one (ac+1) fl) 113 (0,0)):=by rw[m];exact BlkB.set5 u _
 have J:OwM w1 B (.slice (some ⟨g,0,none⟩) D.n S) D R:=h.own.kept (z:=none) (by rw[A];exact World.grownBy_alloc _ _ _) (by simp);have L:=J.other (p:=⟨db,5,none⟩) (z2p J.top u (by decide)) (fun i hi=>z2p (J.row i hi) u (by decide)) (.int .i64 (ac+1));have Y:OwM l B (.slice (some ⟨g,0,none⟩) D.n S) D R:=by rw[m];exact⟨L.top,L.row,L.apart⟩
 clear J L b6 u;have j:l.cell? ⟨db,3,none⟩=some (.slice (some ⟨g,0,none⟩) D.n S)/\l.cell? ⟨g,q*2+1,none⟩=some (.slice ra (D.na q) rc)/\l.cell? ⟨H,0,none⟩=some (.int .i64 a)/\l.cell? ⟨H,1,none⟩=some (.int .i64 b)/\l.cell? ⟨H,2,none⟩=some (.string x)/\l.cell? ⟨H,3,none⟩=some (.int .i64 t) :=
  ⟨BlkB.c3 a3,by rw[Y.arcs_cell hq,b0],by simp[World.cell?,N],by simp[World.cell?,N],by simp[World.cell?,N],by simp[World.cell?,N]⟩
 have a8:∀ i,i<D.n->(R i).ownBlock≠some db:=fun i hi=>z2p (Y.row i hi) a3 (by decide);have a5:(R q).ownBlock≠some g:=fun e=>Y.tne hq e rfl;have HI:=qh hi;have e1:=qh d3;have e5:=qh d2;have d8:=qh d7;clear hi d3 d2 d7;have HH:=qh h;clear h;have O:=qh Y;clear Y;have b1:=qh a3;clear a3;have f9:=qh N;clear N;have a2:=qh d4;clear d4;have a4:=qh b0;clear b0;have b7:=qh a8;clear a8;have Z:=qh a5;clear a5
 go_enter func92,ntmps92
 go_wp2_with fail
 refine z0h (fun Q=>Q.cell? ⟨db,3,none⟩=some (.slice (some ⟨g,0,none⟩) D.n S)/\Q.cell? ⟨g,q*2+1,none⟩=some (.slice ra (D.na q) rc)/\Q.cell? ⟨H,0,none⟩=some (.int .i64 a)/\Q.cell? ⟨H,1,none⟩=some (.int .i64 b)/\Q.cell? ⟨H,2,none⟩=some (.string x)/\Q.cell? ⟨H,3,none⟩=some (.int .i64 t)) 20 (by kernel_rfl) ?_;rw[<- A,<- m,<- hH];clear c5 f5;have g4:=qh A;clear A;have f7:=qh m;clear m;have b3:=qh hH;clear hH;refine z0c.tm 0 j ?_;refine z0c.tm 1 j ?_;refine z0c.tm 2 j ?_;refine z0c.tm 3 j ?_;refine z0c.tm 4 j ?_;refine z0c.tm 5 j ?_;refine z0c.tm 6 j ?_;refine z0c.tm 7 j ?_;refine z0c.tm 8 j ?_;refine z0c.tm 9 j ?_;refine z0c.tm 10 j ?_;refine z0c.tm 11 j ?_;refine z0c.tm 12 j ?_;refine z0c.tm 13 j ?_;refine z0c.tm 14 j ?_;refine z0c.tm 15 j ?_
 try simp only[Act.put,tryL]
 refine z0c.on 16 fun K hK=>?_;go_simp;obtain⟨G,F⟩:=exq (l.alloc (.cells #[.int .i64 a,.int .i64 b,.string x,.int .i64 t] 59));have s:l.grownBy G none:=by rw[F];exact World.grownBy_alloc _ _ _
 have c7:G.heap[H+1]?=some (.cells #[.int .i64 a,.int .i64 b,.string x,.int .i64 t] 59 (0,0)):=by rw[F,<- a6];exact heap_alloc_new l _
 have f8:G.heap.size=H+1+1:=by rw[F];simp[a6]
 have P:G.cell? ⟨db,3,none⟩=some (.slice (some ⟨g,0,none⟩) D.n S)/\G.cell? ⟨g,q*2+1,none⟩=some (.slice ra (D.na q) rc)/\G.cell? ⟨H,0,none⟩=some (.int .i64 a)/\G.cell? ⟨H,1,none⟩=some (.int .i64 b)/\G.cell? ⟨H,2,none⟩=some (.string x)/\G.cell? ⟨H,3,none⟩=some (.int .i64 t) :=
  ⟨s.cell j.1 (by simp),s.cell j.2.1 (by simp),s.cell j.2.2.1 (by simp),s.cell j.2.2.2.1 (by simp),s.cell j.2.2.2.2.1 (by simp),s.cell j.2.2.2.2.2 (by simp)⟩
 have I:G.ownsRow B 59 4 (.slice ra (D.na q) rc) (D.na q) (cat (arc4 D q) (D.na q)):=by rw[F,<- a4.out];exact World.ownsRow.alloc (O.out.row q hq) _
 have b5:B<=G.heap.size:=by have:=b3.out;omega
 rw[<- F];have W:=qh F;clear F;have d9:=qh c7;clear c7;refine hK.out _ _ (.inr P) ?_;clear hK K
 try simp only[Act.put,tryL]
 refine z0c.on 17 fun K hK=>?_;refine wp_append_lies _ (.tmp 27) (.tmp 29) 55 rfl B 59 i0 (.agg #[.int .i64 0,.int .i64 0,.string ⟨#[]⟩,.int .i64 0]) 4 40 underlying55 HI.out e1.out e5.out d8.out rfl (by omega) (.slice ra (D.na q) rc) (D.na q) _ (by simp[Act.eval]) I ⟨H+1,0,none⟩ 1 1 [.int .i64 a,.int .i64 b,.string x,.int .i64 t] (by simp[Act.eval]) rfl (y7w (cs:=#[.int .i64 a,.int .i64 b,.string x,.int .i64 t]) d9.out) y7z (by omega) (by unfold maxLen;omega) (by omega) b5 _ rfl ?_;intro go cq E X C b4 f0;have d:G.grownBy E (R q).ownBlock:=by rw[a4.out];exact C
 have a1:E.heap[db]?=some (.cells (bcs D (.slice (some ⟨g,0,none⟩) D.n S) one (ac+1) fl) 113 (0,0)) :=
  (d.block db (by have:=lt_of_block b1.out;have:=s.size;omega) (fun e=>b7.out q hq e.symm)).trans ((s.block db (lt_of_block b1.out) (by simp)).trans b1.out)
 have g3:g<l.heap.size:=(World.ownsRow.lt O.out.top g rfl).2;have e9:E.cell? ⟨g,q*2+1,none⟩=some (.slice ra (D.na q) rc):=d.cell P.2.1 (fun e=>Z.out e.symm);have c9:∀ c,(Value.slice (some ⟨go,0,none⟩) (D.na q+1) cq).ownBlock=some c->(R q).ownBlock=some c\/l.heap.size<=c:=fun c hc=>by
  have e:go=c:=by simpa [Value.ownBlock] using hc
  subst e
  rcases b4 with U|U
  ·exact .inl (by rw[a4.out];exact U)
  right;omega
 have a9:=O.out.arc (a:=a) (b:=b) (x:=x) (t:=t) (v':=.slice (some ⟨go,0,none⟩) (D.na q+1) cq) hq X (o:=.cells #[.int .i64 a,.int .i64 b,.string x,.int .i64 t] 59) (by rw[<- W.out];exact d) c9;have g0:E.frozen? ⟨g,q*2+1,none⟩=false:=by
  have U:E.ownsRow B 57 2 (.slice (some ⟨g,0,none⟩) D.n S) D.n (cat (st2 D R) D.n):=z2q (by rw[W.out];exact World.ownsRow.alloc O.out.top _) d (fun c hc e=>by
   have e2:g=c:=by simpa [Value.ownBlock] using hc
   subst e2;exact Z.out e)
  exact z5y U _
 have b2:E.cell? ⟨db,3,none⟩=some (.slice (some ⟨g,0,none⟩) D.n S)/\E.cell? ⟨g,q*2+1,none⟩=some (.slice ra (D.na q) rc)/\E.cell? ⟨H,0,none⟩=some (.int .i64 a)/\E.cell? ⟨H,1,none⟩=some (.int .i64 b)/\E.cell? ⟨H,2,none⟩=some (.string x)/\E.cell? ⟨H,3,none⟩=some (.int .i64 t):=by
  have T:some H≠(R q).ownBlock:=fun e=>by have:=(World.ownsRow.lt (HH.out.own.row q hq) H e.symm).2;rw[<- b3.out] at this;omega
  exact⟨BlkB.c3 a1,e9,d.cell P.2.2.1 T,d.cell P.2.2.2.1 T,d.cell P.2.2.2.2.1 T,d.cell P.2.2.2.2.2 T⟩
 have b8:FrK db w (.slice (some ⟨g,0,none⟩) D.n S) R D.n (E.setCell ⟨g,q*2+1,none⟩ (.slice (some ⟨go,0,none⟩) (D.na q+1) cq)) (.slice (some ⟨g,0,none⟩) D.n S) (fun i=>if i=q then .slice (some ⟨go,0,none⟩) (D.na q+1) cq else R i) D.n:=by
  intro b hb hf;have f1:b≠g:=fun e=>hf.2.1 (by rw[e];rfl);have c8:b<l.heap.size:=Nat.lt_of_lt_of_le hf.1 a2.out.size;have d1:b<G.heap.size:=Nat.lt_of_lt_of_le c8 s.size;refine⟨⟨by rw[nblk_setCell];exact Nat.lt_of_lt_of_le d1 d.size,hf.2.1,fun i hi=>?_⟩,?_⟩
  ·dsimp only
   split
   ·intro e;have e2:go=b:=by simpa [Value.ownBlock] using e
    subst e2
    rcases b4 with U|U
    ·exact hf.2.2 q hq (by rw[a4.out];exact U)
    omega
   exact hf.2.2 i hi
  rw[z0e f1];exact(d.block b d1 (fun e=>hf.2.2 q hq e.symm)).trans ((s.block b c8 (by simp)).trans (a2.out.block b hf.1 hb))
 have e6:=qh b8;clear b8;have d5:Kt db w E:=by
  have h2:=Kt.of_own (db:=db) (I) (.inr rfl) C;exact((Kt.of_fr a2.out).trans (Kt.of_fr (Fr.of_gb s (by simp)))).trans h2
 have d6:Below B w E:=((a2.out.below hB (fun q e=>by rw[e];exact HH.out.low)).trans (((Below.refl B l).alloc (by have:=b3.out;omega) _))).grown (by rw[<- W.out];exact C) (by rw[<- W.out];exact b5) (fun k hk=>(World.ownsRow.lt I k hk).1);have b9:=qh a9;clear a9;have a7:=qh a1;clear a1;have g5:=qh d5;clear d5;have e7:=qh d6;clear d6;have d0:∃ cs fr,E.heap[g]?=some (.cells cs 57 fr):=by
  have U:E.ownsRow B 57 2 (.slice (some ⟨g,0,none⟩) D.n S) D.n (cat (st2 D R) D.n):=z2q (by rw[W.out];exact World.ownsRow.alloc O.out.top _) d (fun c hc e=>by
   have e2:g=c:=by simpa [Value.ownBlock] using hc
   subst e2;exact Z.out e)
  rcases U.2 with ⟨hv,_⟩|⟨g',f3,e3,hv,_,e8,_⟩
  ·cases hv
  cases hv;exact⟨e3,_,e8⟩
 have e4:=qh d0;clear d0;clear X C d b4 f0 c9 I s;refine hK.out _ _ (.inr b2) ?_;clear hK K
 try simp only[Act.put,tryL]
 refine z0c.tm 18 b2 ?_;refine z0c.tm 19 b2 ?_
 try simp only[Act.put,tryL]
 refine z0c.on 20 fun K hK=>?_;go_simp;refine hK.out _ _ (.inl rfl) (z0c.dn ?_);clear hK K
 go_wp2_with fail
 go_end0
 have e0:B<=g:=(World.ownsRow.lt O.out.top g rfl).1;refine⟨rfl,⟨_,_,⟨?_,b9.out,HH.out.low⟩,e6.out⟩,e7.out.setCell (p:=⟨g,q*2+1,none⟩) e0 _⟩;have T:db≠g:=fun e=>by
  obtain⟨cs,fr,U⟩:=e4.out;rw[<- e,a7.out] at U;simp at U
 rw[z0e (show db≠g from T)];exact a7.out
end
end Go.Proofs.YteappjogmnogcaaGreatDoor
