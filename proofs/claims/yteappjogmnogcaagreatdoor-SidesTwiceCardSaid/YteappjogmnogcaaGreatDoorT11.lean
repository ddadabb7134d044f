/- Parts of a proof: WgX W8F R8C R8A R7A R7S R8B RWd R8D WVal Box CpyS BlA. -/
import Derived.Test.YteappjogmnogcaaGreatDoorT10
import Derived.Test.YteappjogmnogcaaGreatDoorT09
import Derived.Test.YteappjogmnogcaaGreatDoorT08
import Derived.Test.YteappjogmnogcaaGreatDoorT06
import Derived.Deep.QuietTactic
import Derived.BigQuiet
import Derived.Deep.AppendLies
import Derived.Laws.IdiomCopy
import Derived.Lib.SlBuf
import Derived.Test.YteappjogmnogcaaGreatDoorT07
import Derived.Laws.ResultCell
import Derived.Laws.CopyOwn
namespace Go.Proofs.YteappjogmnogcaaGreatDoor
set_option maxRecDepth 100000
set_option linter.unusedSimpArgs false
set_option linter.unusedVariables false
set_option linter.unusedSectionVars false
set_option maxHeartbeats 16000000
open Go Tryz
section
open Go.RowKit Go.Deep
theorem y4w {D:MD} {mv xv yv:Value} {na nb:Nat} {x y:Nat->Int} (w:World) (hM:Ma none w mv D) (H4:MSz D) (ht:Tab w) (hx:Si none w xv na x) (hy:Si none w yv nb y) (L1:(na:Int)<=9223372036854775807) (L4:(nb:Int)<=9223372036854775807) :
  Calls prog 35 #[mv,xv,yv] w (WgtX D na x nb y w):=by
 obtain⟨sv,rfl,hS⟩:=hM;obtain⟨a,cap,b,O3,A,C,BB,O,j0,_⟩:=hS.open;obtain⟨ax,cx,rfl⟩:=hx.shape;obtain⟨ay,cy,rfl⟩:=hy.shape;subst j0;obtain⟨w1,r3⟩:=exq (w.alloc (.cells #[.int .i64 D.kind,.int .i64 D.start,.string D.lead,.slice a D.n cap] 24));obtain⟨w2,x8⟩:=exq (w1.alloc (.cells #[.slice ax na cx] 25));obtain⟨w3,z4⟩:=exq (w2.alloc (.cells #[.slice ay nb cy] 25));have G3:w1.heap.size=w.heap.size+1:=by rw[r3];simp
 have I9:w2.heap.size=w.heap.size+1+1:=by rw[x8];simp[G3]
 have M9:w3.heap.size=w.heap.size+1+1+1:=by rw[z4];simp[I9]
 have L2:Fr (fun _=>False) w w1:=by rw[r3];exact Fr.alloc _ _
 have d2:Fr (fun _=>False) w1 w2:=by rw[x8];exact Fr.alloc _ _
 have B8:Fr (fun _=>False) w2 w3:=by rw[z4];exact Fr.alloc _ _
 have D7:BoxM w1 w.heap.size D (.slice a D.n cap):=by rw[r3];exact BoxM.new w D _
 have l8:BoxM w3 w.heap.size D (.slice a D.n cap):=(((B8.block _ (by omega) (fun e=>e)).trans (d2.block _ (by omega) (fun e=>e))).trans D7);have D6:Bx w2 (w.heap.size+1) 25 (.slice ax na cx):=by rw[<- G3,x8];exact heap_alloc_new w1 _
 have G4:Bx w3 (w.heap.size+1) 25 (.slice ax na cx):=D6.kept B8 (fun e=>e);have H7:Bx w3 (w.heap.size+1+1) 25 (.slice ay nb cy):=by rw[<- I9,z4];exact heap_alloc_new w2 _
 have C0:Below w.heap.size w w3:=((L2.trans d2).trans B8).below nlr (fun _ e=>e.elim);obtain⟨mb,I6⟩:=exq (w.heap.size);obtain⟨xb,H2⟩:=exq (w.heap.size+1);obtain⟨yb,J0⟩:=exq (w.heap.size+1+1);rw[<- I6] at l8;rw[<- H2] at G4;rw[<- J0] at H7;have O0:w.heap.size<=mb:=by omega
 have m0:=l8.c0;have m1:=l8.c1;have m2:=l8.c2;have m3:=l8.c3;have L8:=qh (z2g w3 (⟨_,rfl,hS.kept (z0b C0 none)⟩:Ma none w3 (.agg #[.int .i64 D.kind,.int .i64 D.start,.string D.lead,.slice a D.n cap]) D) H4 (ht.below C0 nlr));clear L2 d2 B8 D7 D6 G3 I9 M9;have H5:=qh C0;clear C0;have I0:=qh l8;clear l8;have y8:=qh G4;clear G4;have A2:=qh H7;clear H7;have i7:=qh H4;clear H4;have i8:=qh ht;clear ht;have HX:=qh hx;clear hx;have HY:=qh hy;clear hy;have j4:=qh hS;clear hS
 go_enter func35,ntmps35
 go_wp2_with fail
 rw[<- r3,<- x8,<- z4,<- J0,<- H2,<- I6];clear r3 x8 z4 I6 H2 J0 m0 m1 m2 m3;refine L8.out.mono ?_;rintro r w4 ⟨u9,hr⟩;have D4:=H5.out.trans (u9.mono H5.out.size);have F1:BoxM w4 mb D (.slice a D.n cap):=(u9.block _ I0.out.lt).trans I0.out;have q8:Bx w4 xb 25 (.slice ax na cx):=(u9.block _ y8.out.lt).trans y8.out;have F9:Bx w4 yb 25 (.slice ay nb cy):=(u9.block _ A2.out.lt).trans A2.out;have c4:=q8.cell;have e5:=qh D4;clear D4 u9 H5 L8;have k1:=qh F1;clear F1 I0;have r5:=qh q8;clear q8 y8;have o3:=qh F9;clear F9 A2
 rcases hr with ⟨hv,rfl⟩|⟨hv,rfl⟩
 rotate_left
 ·have HV:=qh hv;clear hv;go_wp2;go_ret2;exact⟨e5.out,.inr ⟨fun h=>HV.out h.1,rfl⟩⟩
 have HV:=qh hv;clear hv;have J2:=qh (x4f w4 (HX.out.kept (z0b e5.out none)) L1)
 go_wp2_with fail
 refine J2.out.mono ?_;rintro r M6 ⟨rfl,rfl⟩;cases p7:isWord na x
 ·go_wp2;go_ret2;exact⟨e5.out,.inr ⟨fun h=>absurd h.2.1 (by rw[p7];simp),rfl⟩⟩
 have N0:na<=200:=by unfold isWord at p7;simp at p7;exact p7.1
 have H9:=qh p7;clear p7 J2 L1;have d4:=o3.out.cell;have L0:=qh (x4f M6 (HY.out.kept (z0b e5.out none)) L4)
 go_wp2_with fail
 refine L0.out.mono ?_;rintro r w5 ⟨rfl,rfl⟩;cases p8:isWord nb y
 ·go_wp2;go_ret2;exact⟨e5.out,.inr ⟨fun h=>absurd h.2.2 (by rw[p8];simp),rfl⟩⟩
 have N2:nb<=200:=by unfold isWord at p8;simp at p8;exact p8.1
 have G7:=qh p8;clear p8 L0 L4 c4;have m0:=k1.out.c0;have m1:=k1.out.c1;have m2:=k1.out.c2;have m3:=k1.out.c3;have K3:=qh (v2e w5 HV.out (j4.out.kept (z0b e5.out none)) i7.out.aw (i8.out.below e5.out nlr) u4h)
 go_wp2_with fail
 refine K3.out.mono ?_;rintro r w6 ⟨z3,o,e6,st,e0,rfl,K7,I2,E6,E0⟩;have z6:=qh E0;clear E0;have K6:=qh E6;clear E6;have L5:=qh I2;have i9:=qh (show w.heap.size<=w6.heap.size from Nat.le_trans e5.out.size z3.size);obtain⟨m,hm⟩:=exq (nb+1);have C4:=run_make_row' (P:=prog) 101 102 (.slice none 0 0) 24 underlying101 y9c rfl .i64 .i64 m (by omega) (by omega);have s6:((m:Nat):Int)=(nb:Int)+1:=by omega
 rw[s6] at C4;have HM:=qh hm;clear hm;have A3:=e5.out.trans (z3.mono e5.out.size);have F7:Bx w6 xb 25 (.slice ax na cx):=(z3.block _ r5.out.lt).trans r5.out;have D2:Bx w6 yb 25 (.slice ay nb cy):=(z3.block _ o3.out.lt).trans o3.out;obtain⟨w7,k6⟩:=exq (w6.alloc (.cells #[.pointer (some ⟨o,0,none⟩)] 98));obtain⟨c8,I4⟩:=exq (w6.heap.size);have e7:Fr (fun _=>False) w6 w7:=by rw[k6];exact Fr.alloc _ _
 have h8:Bx w7 c8 98 (.pointer (some ⟨o,0,none⟩)):=by rw[k6,I4];exact heap_alloc_new w6 _
 have K0:w.heap.size<=o:=Nat.le_trans e5.out.size K7;have c:WG w w6 w7 o c8 xb yb D (.slice a D.n cap) e6 (.slice ax na cx) (.slice ay nb cy) e0:=⟨A3.trans (e7.below A3.size (fun _ e=>e.elim)),⟨e7.os,e7.tape,e7.output,e7.size,fun q hq _=>e7.block q hq (fun e=>e)⟩,I2.kept e7 (fun e=>e),h8,F7.kept e7 (fun e=>e),D2.kept e7 (fun e=>e),K0,i9.out⟩;have d6:=c.ky.cell;obtain⟨w8,y2⟩:=exq (w7.alloc (.cells (madeCells #[.slice none 0 0] m) 102));have J5:w7.heap.size=w6.heap.size+1:=by rw[k6];simp
 obtain⟨g,hg⟩:=exq (w6.heap.size+1);have K9:Fr (fun _=>False) w7 w8:=by rw[y2];exact Fr.alloc _ _
 have m8:w8.rowIs g 102 m (fun _=>.slice none 0 0):=by rw[y2,hg,<- J5];exact World.rowIs_made w7 (.slice none 0 0) m 102
 have o2:=c.kept K9 (fun e=>e) (fun e=>e) (fun e=>e) (fun e=>e) (fun _ e=>e.elim);have k8:=o2.k8.cell;have K2:=qh (x6c w8 o2.sc HV.out.n1 (by have:=HV.out.n2;omega) HV.out.s0 HV.out.s1);have f0:=m8.frozen 0;have H1:w6.heap.size<=g:=by omega
 have A9:=qh o2;clear o2 c;have l9:=qh m8;clear m8;have L9:=qh e7;clear e7;have J6:g<w8.heap.size:=l9.out.lt;have M7:w6.heap.size<=w8.heap.size:=A9.out.gs.size;clear A3 F7 D2 r5 o3 k1 e5 z3 I2 K7 m0 m1 m2 m3 d4 K3 h8 K9 J5;rw[k6] at d6;rw[y2,k6] at k8
 go_wp2_with fail
 rw[<- hg,<- I4,<- k6,<- y2];clear d6 k8 k6 y2 I4 hg L9 C4 s6;refine K2.out.mono ?_;rintro r w9 ⟨rfl,v4,I7⟩;obtain⟨r0,Y⟩:=exq (w8.heap.size);rw[<- Y] at v4;rw[<- Y];have i5:=A9.out.kept I7 (fun e=>e) (fun e=>e) (fun e=>e) (fun e=>e) (fun _ e=>e.elim);have b5:=I7.row l9.out (fun e=>e);have M5:(0:Int)<(m:Int):=by have:=HM.out;omega
 have f0:=b5.frozen 0;have g0:=b5.cell (i:=0) (by have:=HM.out;omega);have K1:g≠r0:=by omega
 have K8:Fr (fun q=>q=g) w9 (w9.setCell ⟨g,0,none⟩ (.slice (some ⟨r0,0,none⟩) D.n D.n)):=(Fr.refl (fun q=>q=g) w9).set (p:=⟨g,0,none⟩) (.inl rfl) _;have z9:WG w w6 (w9.setCell ⟨g,0,none⟩ (.slice (some ⟨r0,0,none⟩) D.n D.n)) o c8 xb yb D (.slice a D.n cap) e6 (.slice ax na cx) (.slice ay nb cy) e0 :=
  i5.kept K8 (fun e=>z0h b5 i5.sc (by decide) e.symm) (fun e=>z0h b5 i5.k8 (by decide) e.symm) (fun e=>z0h b5 i5.kx (by decide) e.symm) (fun e=>z0h b5 i5.ky (by decide) e.symm) (fun q e=>by rw[e];exact H1)
 have u0:VR1 (w9.setCell ⟨g,0,none⟩ (.slice (some ⟨r0,0,none⟩) D.n D.n)) w6.heap.size g m D.n (fun j=>if j=0 then some r0 else none) (fun j=>if j=0 then some (z7u D) else none):=by
  refine⟨(b5.set 0 _).congr (fun j _=>?_),H1,fun j _=>?_,fun j r x hj H h2=>?_,fun j j' r hj O1 H h2=>?_,fun j x H q=>?_⟩
  ·by_cases e:j=0
   ·rw[if_pos e,if_pos e];rfl
   rw[if_neg e,if_neg e];rfl
  ·by_cases e:j=0
   ·rw[if_pos e,if_pos e];simp
   rw[if_neg e,if_neg e];simp
  ·by_cases e:j=0
   ·rw[if_pos e] at H h2;cases H;cases h2;exact⟨v4.setOther (a:=⟨g,0,none⟩) (fun e=>K1 e.symm) _,by omega⟩
   rw[if_neg e] at H;cases H
  ·by_cases e:j=0
   ·by_cases e':j'=0
    ·rw[e,e']
    rw[if_neg e'] at h2;cases h2
   rw[if_neg e] at H;cases H
  by_cases e:j=0
  ·rw[if_pos e] at H;cases H;unfold z7u;split
   ·exact i7.out.lead
   exact z8f 0
  rw[if_neg e] at H;cases H
 have l0:=qh z9;clear z9 K8;have m5:=qh u0;clear u0;clear K2 I7 v4 i5 b5 l9 A9 K1 Y J6 M7;obtain⟨p6,o7⟩:=exq (w9.setCell ⟨g,0,none⟩ (.slice (some ⟨r0,0,none⟩) D.n D.n));rw[<- o7] at l0 m5;obtain⟨B2,t7⟩:=exq (w9.heap.size);have C9:p6.heap.size=w9.heap.size:=by rw[o7,nblk_setCell]
 obtain⟨C2,n7⟩:=exq (p6.alloc (.cells #[.int .i64 0] 3));have z1:Fr (fun _=>False) p6 C2:=by rw[n7];exact Fr.alloc _ _
 have x3:Bx C2 B2 3 (.int .i64 ((0:Nat):Int)):=by rw[n7,t7,<- C9];exact heap_alloc_new p6 _
 have x1:=qh (l0.out.kept z1 (fun e=>e) (fun e=>e) (fun e=>e) (fun e=>e) (fun _ e=>e.elim));clear l0;have u2:=qh (m5.out.kept z1);clear m5 z1;have r9:=qh x3;clear x3
 go_wp2_with fail
 rw[<- o7,<- n7,<- t7];clear n7 t7 C9 o7 f0 g0 M5;have N6:m<=201:=by have:=HM.out;omega
 go_loopw [9,10] (fun v9 G5 wr=>∃ (i e g ib:Nat) (R:Nat->Option Nat) (S:Nat->Option VV),i<=na+1/\v9=.slice (some ⟨g,0,none⟩) m m/\G5=.pointer (some ⟨ib,0,none⟩)/\Bx wr ib 3 (.int .i64 (i:Int))/\VR1 wr w6.heap.size g m D.n R S /\
  WG w w6 wr o c8 xb yb D (.slice a D.n cap) e6 (.slice ax na cx) (.slice ay nb cy) e/\outG D st na x nb y (na+1-i) i S e=wgtG D st e0 na x nb y) (fun _ G5 wr=>na+2-ixOf G5 wr)
 case atStart=>exact⟨0,e0,g,B2,_,_,Nat.zero_le _,rfl,rfl,r9.out,u2.out,x1.out,rfl⟩
 obtain⟨i,e,g,ib,R,S,hi,rfl,rfl,B,k,c,c7⟩:=hrel;clear r9 u2 x1 H1;have I:=qh B;clear B;have J:=qh k;clear k;have l:=qh c;clear c;have B6:=qh c7;clear c7;have HI:=qh (y7v I.out.cell);have ci:=I.out.cell;have b1:=l.out.kx.cell;have M4:=l.out.k8.cell;have c5:=l.out.sc.c5;by_cases j3:i<=na/\e=0
 ·obtain⟨O2,rfl⟩:=j3;have N5:(i:Int)<=(na:Int):=by omega
  have b2:=l.out.ky.cell;have C4:=run_make_row' (P:=prog) 101 102 (.slice none 0 0) 24 underlying101 y9c rfl .i64 .i64 m (by have:=HM.out;omega) (by have:=HM.out;omega);have s6:((m:Nat):Int)=(nb:Int)+1:=by have:=HM.out;omega
  rw[s6] at C4;clear s6;have N9:∀ (fn:Fn) (first cap:Array Value) (w:World),(Instr.makeFunc fn first cap).run prog w=.ok (.func fn first cap) w:=fun _ _ _ _=>rfl
  obtain⟨wn,B1⟩:=exq (wr.alloc (.cells (madeCells #[.slice none 0 0] m) 102));obtain⟨g2,G8⟩:=exq (wr.heap.size);have C3:Fr (fun _=>False) wr wn:=by rw[B1];exact Fr.alloc _ _
  have x4:wn.rowIs g2 102 m (fun _=>.slice none 0 0):=by rw[B1,G8];exact World.rowIs_made wr (.slice none 0 0) m 102
  have o4:=J.out.two C3 (show wr.heap.size<=g2 by omega) l.out.gs.size x4;obtain⟨gg,C6⟩:∃ gg:Bool->Nat,gg=fun b=>if b then g2 else g:=⟨_,rfl⟩
  rw[<- C6] at o4;have J8:gg false=g:=by rw[C6];rfl
  have K4:gg true=g2:=by rw[C6];rfl
  have b6:=qh J8;clear J8;have p9:=qh K4;clear K4 C6;obtain⟨R2,J9⟩:∃ R2:Bool->Nat->Option Nat,R2=fun b=>if b then fun _=>none else R:=⟨_,rfl⟩
  rw[<- J9] at o4;clear J9;have D8:=qh (l.out.kept C3 (fun e=>e) (fun e=>e) (fun e=>e) (fun e=>e) (fun _ e=>e.elim));clear l;have E4:=qh (I.out.kept C3 (fun e=>e));clear I;have F2:=qh o4;clear o4 J C3 x4
  go_wp2_with fail
  rw[<- G8,<- B1];clear G8 B1 ci b1 M4 c5 b2;obtain⟨s0,C5⟩:∃ s0:RS,s0=(twoR S (fun _=>none),0):=⟨_,rfl⟩;have J7:=qh C5
  go_loopw [57] (fun H6 wr=>∃ (j:Nat) (R:Bool->Nat->Option Nat) (s:RS),j<=m/\H6=.int .i64 (j:Int)/\s=colG D st na x nb y i j s0/\VR wr w6.heap.size gg m D.n R s.1/\WG w w6 wr o c8 xb yb D (.slice a D.n cap) e6 (.slice ax na cx) (.slice ay nb cy) s.2/\Bx wr ib 3 (.int .i64 (i:Int))) (fun H6 _=>m-(intOf H6).toNat)
  case atStart=>exact⟨0,R2,s0,Nat.zero_le _,rfl,rfl,by rw[C5];exact F2.out,by rw[C5];exact D8.out,E4.out⟩
  obtain⟨j,Rp,sp,hj,rfl,k4,k,c,B⟩:=hrel;clear F2 D8 E4 C5;have J:=qh k;clear k;have l:=qh c;clear c;have I:=qh B;clear B;have B4:=qh k4;clear k4;by_cases a1:j<m
  ·have g7:=qh a1;have N7:(j:Int)<(m:Int):=by omega
   have N4:(0:Int)<=(j:Int):=by omega
   obtain⟨wj,l2⟩:=exq (wr.alloc (.cells #[.int .i64 (j:Int)] 3));obtain⟨jb,z⟩:=exq (wr.heap.size);have B5:Fr (fun _=>False) wr wj:=by rw[l2];exact Fr.alloc _ _
   have L3:Bx wj jb 3 (.int .i64 (j:Int)):=by rw[l2,z];exact heap_alloc_new wr _
   have s7:=J.out.kept B5 (fun _ e=>e) (fun _ _ _ _ _ e=>e);have hg:=(s7.top false).cell a1;rw[b6.out] at hg;have q7:=qh (l.out.kept B5 (fun e=>e) (fun e=>e) (fun e=>e) (fun e=>e) (fun _ e=>e.elim));clear l;have y9:=qh (I.out.kept B5 (fun e=>e));clear I;have D0:=qh L3;clear L3;have k3:=qh s7;clear s7 J B5;cases j0:sp.1 false j with
   | none =>
    have hr:=(k3.out.non false j a1).2 j0;rw[hr] at hg;have k9:wj.cell? ⟨g,j,none⟩=some (.slice none 0 0):=hg;have hq:=fun w=>y1n 102 9 underlying102 w none 0 0;rw[show (none:Option Addr).isNone=true from rfl] at hq;rw[l2] at k9;have j7:colG D st na x nb y i (j+1) s0=sp:=by show y0r D st na x nb y i j (colG D st na x nb y i j s0)=sp;rw[<- B4.out];unfold y0r;rw[j0]
    have d9:=qh j7;clear j7 j0 hr hg
    go_wp2_with fail
    rw[<- l2];go_roundw
    case rel=>exact⟨j+1,Rp,sp,by have:=g7.out;omega,by go_num,d9.out.symm,k3.out,q7.out,y9.out⟩
    simp[intOf];have:=g7.out;omega
   | some vp =>
    obtain⟨rp,l7,F3,_⟩:=k3.out.some_of a1 j0;rw[l7] at hg;have k9:wj.cell? ⟨g,j,none⟩=some (.slice (some ⟨rp,0,none⟩) D.n D.n):=hg;have hq:=fun w=>y1n 102 9 underlying102 w (some ⟨rp,0,none⟩) D.n D.n;rw[show (some (⟨rp,0,none⟩:Addr)).isNone=false from rfl] at hq;obtain⟨rr,H8⟩:=exq (z5r D.kind D.n st vp sp.2);have j7:colG D st na x nb y i (j+1) s0=cell3 D na x nb y i j rr.1 (cell2 D na x i j rr.1 (cell1 D nb y j rr.1 (updV sp.1 false j rr.1,rr.2))):=by show y0r D st na x nb y i j (colG D st na x nb y i j s0)=_;rw[<- B4.out,H8];unfold y0r;rw[j0]
    have G2:=qh H8;clear H8;have d9:=qh j7;clear j7;have u8:=qh j0;clear j0;have E1:=qh F3;clear F3;have b9:=qh l7;clear l7;rw[l2] at k9
    go_wp2_with fail
    rw[<- z,<- l2];clear l2 z k9 hg hq;have a9:Fr (fun _=>False) wj wj.drew:=(Fr.refl _ _).drew;obtain⟨wd,e4⟩:=exq (wj.drew);rw[<- e4] at a9;have u:=q7.out.kept a9 (fun e=>e) (fun e=>e) (fun e=>e) (fun e=>e) (fun _ e=>e.elim);have a7:=k3.out.kept a9 (fun _ e=>e) (fun _ _ _ _ _ e=>e);have j9:=y9.out.kept a9 (fun e=>e);have f7:=D0.out.kept a9 (fun e=>e);have W:wd.cell? ⟨c8,0,none⟩=some (.pointer (some ⟨o,0,none⟩))/\wd.cell? ⟨jb,0,none⟩=some (.int .i64 (j:Int))/\wd.cell? ⟨g,j,none⟩=some (.slice (some ⟨rp,0,none⟩) D.n D.n) :=
     ⟨u.k8.cell,f7.cell,by have H:=(a7.top false).cell a1;rw[b6.out,b9.out] at H;exact H⟩
    have u7:=a7.sm false j vp u8.out;have E9:=K6.out.later L5.out u.sc u.gs;have L6:=qh (x9u (rb:=rp) (st:=st) (v:=vp) wd HV.out u.sc E9 (a9.row E1.out (fun e=>e)) u7 w u.hb u.lc i8.out);clear E9;have f4:=qh u;clear u q7;have h5:=qh a7;clear a7 k3;have v5:=qh j9;clear j9 y9;have y0:=qh f7;clear f7 D0 a9;have F0:=qh u7;clear u7 E1;refine z0g (fun T=>T.cell? ⟨c8,0,none⟩=some (.pointer (some ⟨o,0,none⟩))/\T.cell? ⟨jb,0,none⟩=some (.int .i64 (j:Int))/\T.cell? ⟨g,j,none⟩=some (.slice (some ⟨rp,0,none⟩) D.n D.n)) 9 (by kernel_rfl) ?_;rw[<- e4];clear e4;refine z0c.tm 0 W ?_;refine z0c.tm 1 W ?_;refine z0c.tm 2 W ?_;refine z0c.tm 3 W ?_;refine z0c.tm 4 W ?_;refine z0c.tm 5 W ?_;refine z0c.tm 6 W ?_
    try simp only[Act.put,tryL]
    refine z0c.on 7 fun K U=>?_;go_simp;refine L6.out.mono ?_;rintro r N ⟨rv,rfl,l3,q9,L7,a5⟩;rw[<- G2.out] at l3 q9;have d0:∀ b,gg b≠o:=fun b=>h5.out.gne_of (show wd.heap[o]?=_ from f4.out.sc) (by decide) b;have d5:∀ b j r,j<m->Rp b j=some r->r≠o:=fun b j r H h2=>h5.out.rne_of (show wd.heap[o]?=_ from f4.out.sc) (by decide) H h2;have b0:ib≠o:=Bx.ne_scl v5.out f4.out.sc;have a8:jb≠o:=Bx.ne_scl y0.out f4.out.sc;have A7:g≠o:=by rw[<- b6.out];exact d0 false
    have f1:=f4.out.rested a5 q9;have z5:=v5.out.kept a5 b0;have o8:=y0.out.kept a5 a8;have D5:∀ q,smS (rr.1 q):=by rw[G2.out];exact v4n F0.out
    have x5:=h5.out.rested (b:=false) (x:=rr.1) a1 b9.out u8.out a5 d0 d5 l3 D5 L7 f4.out.gs.size;rw[b6.out] at x5;have r7:VR (N.setCell ⟨g,j,none⟩ (.slice (some ⟨rv,0,none⟩) D.n D.n)) w6.heap.size gg m D.n (fun b' j'=>if b'=false/\j'=j then some rv else Rp b' j') (updV sp.1 false j rr.1):=x5
    have d1:N.cell? ⟨c8,0,none⟩=some (.pointer (some ⟨o,0,none⟩))/\N.cell? ⟨jb,0,none⟩=some (.int .i64 (j:Int))/\N.cell? ⟨g,j,none⟩=some (.slice (some ⟨rp,0,none⟩) D.n D.n) :=
     ⟨f1.k8.cell,o8.cell,a5.cell W.2.2 A7⟩
    have k7:N.rowIs g 102 m (fun j=>vrV D.n (Rp false j)):=by
     have H:=h5.out.top false;rw[b6.out] at H;exact a5.row H A7
    have fg:=k7.frozen j;have o6:Fr (fun q=>q=g) N (N.setCell ⟨g,j,none⟩ (.slice (some ⟨rv,0,none⟩) D.n D.n)):=(Fr.refl (fun q=>q=g) N).set (p:=⟨g,j,none⟩) (.inl rfl) _;have F:∀ q cs t fr,N.heap[q]?=some (.cells cs t fr)->t≠102->¬ (q=g):=fun q cs t fr H h2 e=>z0h k7 H h2 e.symm;have D3:=f1.kept o6 (F o _ _ _ f1.sc (by decide)) (F c8 _ _ _ f1.k8 (by decide)) (F xb _ _ _ f1.kx (by decide)) (F yb _ _ _ f1.ky (by decide)) (fun q e=>by rw[e,<- b6.out];exact h5.out.low false);have F5:=z5.kept o6 (F ib _ _ _ z5 (by decide));have D9:=o8.kept o6 (F jb _ _ _ o8 (by decide));have l:=qh D3;clear D3 f1 f4;have I:=qh F5;clear F5 z5 v5;have a2:=qh D9;clear D9 o8 y0;have J:=qh r7;clear r7 x5 h5;clear o6 F k7 D5 b0 a8 A7 d0 d5 l3 q9 L7 a5 F0;refine U.out _ _ (.inr d1) ?_;clear U K W
    try simp only[Act.put,tryL]
    refine z0c.tm 8 d1 ?_
    try simp only[Act.put,tryL]
    have g0:=d1.2.2;refine z0c.on 9 fun K U=>?_;go_simp;refine U.out _ _ (.inl rfl) (z0c.dn ?_);clear U K L6;obtain⟨ws,I8⟩:=exq (N.setCell ⟨g,j,none⟩ (.slice (some ⟨rv,0,none⟩) D.n D.n));rw[<- I8] at J l I a2;rw[<- I8];clear I8 d1 fg g0;obtain⟨v,hv⟩:=exq (rr.1);obtain⟨s1,k4⟩:∃ s1:RS,s1=(updV sp.1 false j rr.1,rr.2):=⟨_,rfl⟩;obtain⟨R,hR⟩:∃ R:Bool->Nat->Option Nat,R=fun b' j'=>if b'=false/\j'=j then some rv else Rp b' j':=⟨_,rfl⟩
    have E:R false j=some rv:=by rw[hR];exact if_pos ⟨rfl,rfl⟩
    have Q:s1.1 false j=some v:=by rw[k4,hv];exact z7d _ _ _ _
    have y4:=J.out;rw[<- hR,show updV sp.1 false j rr.1=s1.1 by rw[k4]] at y4;have t9:=l.out;rw[show rr.2=s1.2 by rw[k4]] at t9;have m7:=d9.out;rw[<- k4,<- hv] at m7;clear J l d9 b9;have J:=qh y4;clear y4;have l:=qh t9;clear t9;have d9:=qh m7;clear m7;have b9:=qh E;clear E;have o5:=qh Q;clear Q G2 u8;clear k4 hR hv B4;by_cases j8:j<nb
    ·have J3:(j:Int)<(nb:Int):=by omega
     have ci:=I.out.cell;have cj:=a2.out.cell;have b1:=l.out.kx.cell;have b2:=l.out.ky.cell
     go_wp2_with fail
     clear ci cj b1 b2;have a4:=qh (show (j+1)<m by have:=HM.out;omega);have h6:Fr (fun _=>False) ws ws.drew:=(Fr.refl _ _).drew;obtain⟨l5,r2⟩:=exq (ws.drew);rw[<- r2] at h6;have L:=l.out.kept h6 (fun e=>e) (fun e=>e) (fun e=>e) (fun e=>e) (fun _ e=>e.elim);have n5:=J.out.kept h6 (fun _ e=>e) (fun _ _ _ _ _ e=>e);have C7:=I.out.kept h6 (fun e=>e);have s9:=a2.out.kept h6 (fun e=>e);have e8:l5.cell? ⟨c8,0,none⟩=some (.pointer (some ⟨o,0,none⟩))/\l5.cell? ⟨jb,0,none⟩=some (.int .i64 (j:Int))/\l5.cell? ⟨g,j,none⟩=some (.slice (some ⟨rv,0,none⟩) D.n D.n) :=
      ⟨L.k8.cell,s9.cell,by have H:=(n5.top false).cell a1;rw[b6.out,b9.out] at H;exact H⟩
     have n6:=x3v (b:=false) (j:=(j+1)) l5 n5 L.sc L.k8.cell a4.out L.gs.size HV.out.n1 (by have:=HV.out.n2;omega);rw[b6.out] at n6;have l6:IntKind.i64.wrap ((j:Int)+1)=(j:Int)+1:=by rw[IntKind.wrap_i64];have:=HM.out;omega
     rw[show (((j+1:Nat)):Int)=(j:Int)+1 by omega] at n6;have D1:=qh n6;clear n6;have h3:=qh L;clear L l;have u1:=qh n5;clear n5 J;have x6:=qh C7;clear C7 I;have s5:=qh s9;clear s9 a2 h6;refine z0g (fun T=>T.cell? ⟨c8,0,none⟩=some (.pointer (some ⟨o,0,none⟩))/\T.cell? ⟨jb,0,none⟩=some (.int .i64 (j:Int))/\T.cell? ⟨g,j,none⟩=some (.slice (some ⟨rv,0,none⟩) D.n D.n)) 11 (by kernel_rfl) ?_;rw[<- r2];clear r2;refine z0c.tm 0 e8 ?_;refine z0c.tm 1 e8 ?_;refine z0c.tm 2 e8 ?_;refine z0c.tm 3 e8 ?_;refine z0c.tm 4 e8 ?_;refine z0c.tm 6 e8 ?_;refine z0c.tm 7 e8 ?_;refine z0c.tm 8 e8 ?_;refine z0c.tm 9 e8 ?_;refine z0c.tm 10 e8 ?_
     try simp only[Act.put,tryL]
     refine z0c.on 5 fun K U=>?_;go_simp;refine D1.out.mono ?_;rintro r g3 ⟨Ra,t8,rfl,Y,g1,k,hf⟩;have F:∀ q cs t fr,l5.heap[q]?=some (.cells cs t fr)->t≠102->¬ (q=gg false):=fun q cs t fr H h2 e=>u1.out.gne_of H h2 false e.symm;have c:=h3.out.kept hf (F o _ _ _ h3.out.sc (by decide)) (F c8 _ _ _ h3.out.k8 (by decide)) (F xb _ _ _ h3.out.kx (by decide)) (F yb _ _ _ h3.out.ky (by decide)) (fun q e=>by rw[e];exact u1.out.low false);have B:=x6.out.kept hf (F ib _ _ _ x6.out (by decide));have z:=s5.out.kept hf (F jb _ _ _ s5.out (by decide));have X:¬ (false=false/\j=(j+1)):=fun e=>by have:=e.2;omega
     have E:Ra false j=some rv:=(g1 false j X).trans b9.out;have Q:(updV s1.1 false (j+1) ((s1.1 false (j+1)).getD z1d)) false j=some v:=(y7y X).trans o5.out;have G:=k.row false j rv v a1 E Q;have d:=k.row false (j+1) t8 ((s1.1 false (j+1)).getD z1d) a4.out Y (z7d _ _ _ _);have b7:o≠t8:=(z0h d.1 (show g3.heap[o]?=_ from c.sc) (by decide)).symm;have b8:rv≠o:=z0h G.1 (show g3.heap[o]?=_ from c.sc) (by decide);have f8:rv≠t8:=fun e=>X (k.sep false j false (j+1) rv a1 a4.out E (by rw[e];exact Y));have c9:∀ q,smS (((s1.1 false (j+1)).getD z1d) q):=k.sm false (j+1) _ (z7d _ _ _ _);have a3:∀ q,smS (v q):=k.sm false j v Q;have b0:ib≠o:=Bx.ne_scl B c.sc;have a8:jb≠o:=Bx.ne_scl z c.sc;have hP:PWt w o xb yb ib jb (.slice ax na cx) (.slice ay nb cy) i j g3:=⟨c.hb,c.kx,c.ky,B,z,c.nx,c.ny,b0,a8⟩;have lx:=(z0h d.1 c.kx (by decide)).symm;have ly:=(z0h d.1 c.ky (by decide)).symm;have li:=(z0h d.1 B (by decide)).symm;have lj:=(z0h d.1 z (by decide)).symm;have b4:=y2s (nf:=85) (cap:=#[.pointer (some ⟨yb,0,none⟩),.pointer (some ⟨jb,0,none⟩)]) (sel:=sel2 (y j)) (P:=PWt w o xb yb ib jb (.slice ax na cx) (.slice ay nb cy) i j) w g3 HV.out j4.out c.hb i8.out c.sc d.1 G.1 c.lc (Nat.le_trans i9.out d.2) b7 f8 b8 c9 a3 i7.out.aw hP
      (fun wa wb hp hf=>hp.fr hf c.lc (Nat.le_trans i9.out d.2) lx ly li lj) (tst2 HY.out j8)
     have u3:g3.cell? ⟨c8,0,none⟩=some (.pointer (some ⟨o,0,none⟩))/\g3.cell? ⟨jb,0,none⟩=some (.int .i64 (j:Int))/\g3.cell? ⟨g,j,none⟩=some (.slice (some ⟨rv,0,none⟩) D.n D.n) :=
      ⟨c.k8.cell,z.cell,by have H:=(k.top false).cell a1;rw[b6.out,E] at H;exact H⟩
     have d0:∀ b,gg b≠o:=fun b=>k.gne_of (show g3.heap[o]?=_ from c.sc) (by decide) b;have d5:∀ b j r,j<m->Ra b j=some r->r≠o:=fun b j r H h2=>k.rne_of (show g3.heap[o]?=_ from c.sc) (by decide) H h2;have I1:=a3;have f3:∀ (N:World) (lz:N.rowIs t8 9 D.n (fun q=>.string ((z4c D (sel2 (y j)) v D.n ((s1.1 false (j+1)).getD z1d,s1.2)).1 q))),Fr (fun q=>q=o\/q=t8) g3 N->Scl N o D (.slice a D.n cap) e6 (z4c D (sel2 (y j)) v D.n ((s1.1 false (j+1)).getD z1d,s1.2)).2 ->
       VR N w6.heap.size gg m D.n Ra (z2z D false (j+1) (sel2 (y j)) v s1).1/\WG w w6 N o c8 xb yb D (.slice a D.n cap) e6 (.slice ax na cx) (.slice ay nb cy) (z2z D false (j+1) (sel2 (y j)) v s1).2/\Bx N ib 3 (.int .i64 (i:Int))/\Bx N jb 3 (.int .i64 (j:Int)):=fun N lz fz sz=>by
      have H:=k.step2 a4.out Y fz d0 d5 lz (z6t a3 D.n c9);rw[z8t] at H;exact⟨H,c.stepped fz sz d.1 d.2,B.kept fz (fun e=>e.elim b0 li),z.kept fz (fun e=>e.elim a8 lj)⟩
     have z2:=qh b4;clear b4;have E2:=qh f3;clear f3;have b9:=qh E;clear E;have Z:(z2z D false (j+1) (sel2 (y j)) v s1).1 false j=some v:=(y0u X).trans o5.out;clear I1 F c B z Q G d b7 b8 f8 c9 a3 b0 a8 hP lx ly li lj d0 d5 hf k g1 Y X;have B7:=u3;refine U.out _ _ (.inr u3) ?_;clear U K
     try simp only[Act.put,tryL]
     refine z0c.on 11 fun K U=>?_;go_simp;refine z2.out.mono ?_;rintro r wt ⟨rfl,f5,a6,d2⟩;obtain⟨k,c,B,z⟩:=E2.out wt f5 d2 a6;refine U.out _ _ (.inl rfl) (z0c.dn ?_);clear U K B7 l6 f5 d2 a6 z2 E2 D1 e8 u3 u1 h3 x6 s5;obtain⟨s2,a6⟩:=exq (z2z D false (j+1) (sel2 (y j)) v s1);rw[<- a6] at k c Z;have B3:=qh a6;clear a6;have y5:=qh Z;clear Z;have J:=qh k;clear k;have l:=qh c;clear c;have I:=qh B;clear B;have a2:=qh z;clear z;by_cases e1:i<na
     ·have j2:(i:Int)<(na:Int):=by omega
      have ci:=I.out.cell;have cj:=a2.out.cell;have b1:=l.out.kx.cell;have b2:=l.out.ky.cell
      go_wp2_with fail
      clear ci cj b1 b2;have a4:=qh (show j<m by have:=HM.out;omega);have h7:Fr (fun _=>False) wt wt.drew:=(Fr.refl _ _).drew;obtain⟨m4,A1⟩:=exq (wt.drew);rw[<- A1] at h7;have i4:=l.out.kept h7 (fun e=>e) (fun e=>e) (fun e=>e) (fun e=>e) (fun _ e=>e.elim);have n9:=J.out.kept h7 (fun _ e=>e) (fun _ _ _ _ _ e=>e);have E7:=I.out.kept h7 (fun e=>e);have x9:=a2.out.kept h7 (fun e=>e);have g4:m4.cell? ⟨c8,0,none⟩=some (.pointer (some ⟨o,0,none⟩))/\m4.cell? ⟨jb,0,none⟩=some (.int .i64 (j:Int))/\m4.cell? ⟨g,j,none⟩=some (.slice (some ⟨rv,0,none⟩) D.n D.n) :=
       ⟨i4.k8.cell,x9.cell,by have H:=(n9.top false).cell a1;rw[b6.out,b9.out] at H;exact H⟩
      have y1:=x3v (b:=true) (j:=j) m4 n9 i4.sc i4.k8.cell a4.out i4.gs.size HV.out.n1 (by have:=HV.out.n2;omega);rw[p9.out] at y1;have l6:=HV.out;have C8:=qh y1;clear y1;have i2:=qh i4;clear i4 l;have v0:=qh n9;clear n9 J;have A5:=qh E7;clear E7 I;have z7:=qh x9;clear x9 a2 h7;refine z0g (fun T=>T.cell? ⟨c8,0,none⟩=some (.pointer (some ⟨o,0,none⟩))/\T.cell? ⟨jb,0,none⟩=some (.int .i64 (j:Int))/\T.cell? ⟨g,j,none⟩=some (.slice (some ⟨rv,0,none⟩) D.n D.n)) 10 (by kernel_rfl) ?_;rw[<- A1];clear A1;refine z0c.tm 0 g4 ?_;refine z0c.tm 1 g4 ?_;refine z0c.tm 2 g4 ?_;refine z0c.tm 3 g4 ?_;refine z0c.tm 5 g4 ?_;refine z0c.tm 6 g4 ?_;refine z0c.tm 7 g4 ?_;refine z0c.tm 8 g4 ?_;refine z0c.tm 9 g4 ?_
      try simp only[Act.put,tryL]
      refine z0c.on 4 fun K U=>?_;go_simp;refine C8.out.mono ?_;rintro r g5 ⟨Rb,x7,rfl,Y,g1,k,hf⟩;have F:∀ q cs t fr,m4.heap[q]?=some (.cells cs t fr)->t≠102->¬ (q=gg true):=fun q cs t fr H h2 e=>v0.out.gne_of H h2 true e.symm;have c:=i2.out.kept hf (F o _ _ _ i2.out.sc (by decide)) (F c8 _ _ _ i2.out.k8 (by decide)) (F xb _ _ _ i2.out.kx (by decide)) (F yb _ _ _ i2.out.ky (by decide)) (fun q e=>by rw[e];exact v0.out.low true);have B:=A5.out.kept hf (F ib _ _ _ A5.out (by decide));have z:=z7.out.kept hf (F jb _ _ _ z7.out (by decide));have X:¬ (false=true/\j=j):=fun e=>by cases e.1
      have E:Rb false j=some rv:=(g1 false j X).trans b9.out;have Q:(updV s2.1 true j ((s2.1 true j).getD z1d)) false j=some v:=(y7y X).trans y5.out;have G:=k.row false j rv v a1 E Q;have d:=k.row true j x7 ((s2.1 true j).getD z1d) a4.out Y (z7d _ _ _ _);have b7:o≠x7:=(z0h d.1 (show g5.heap[o]?=_ from c.sc) (by decide)).symm;have b8:rv≠o:=z0h G.1 (show g5.heap[o]?=_ from c.sc) (by decide);have f8:rv≠x7:=fun e=>X (k.sep false j true j rv a1 a4.out E (by rw[e];exact Y));have c9:∀ q,smS (((s2.1 true j).getD z1d) q):=k.sm true j _ (z7d _ _ _ _);have a3:∀ q,smS (v q):=k.sm false j v Q;have b0:ib≠o:=Bx.ne_scl B c.sc;have a8:jb≠o:=Bx.ne_scl z c.sc;have hP:PWt w o xb yb ib jb (.slice ax na cx) (.slice ay nb cy) i j g5:=⟨c.hb,c.kx,c.ky,B,z,c.nx,c.ny,b0,a8⟩;have lx:=(z0h d.1 c.kx (by decide)).symm;have ly:=(z0h d.1 c.ky (by decide)).symm;have li:=(z0h d.1 B (by decide)).symm;have lj:=(z0h d.1 z (by decide)).symm;have b4:=y2s (nf:=86) (cap:=#[.pointer (some ⟨xb,0,none⟩),.pointer (some ⟨ib,0,none⟩)]) (sel:=sel3 (x i)) (P:=PWt w o xb yb ib jb (.slice ax na cx) (.slice ay nb cy) i j) w g5 HV.out j4.out c.hb i8.out c.sc d.1 G.1 c.lc (Nat.le_trans i9.out d.2) b7 f8 b8 c9 a3 i7.out.aw hP
       (fun wa wb hp hf=>hp.fr hf c.lc (Nat.le_trans i9.out d.2) lx ly li lj) (tst3 HX.out e1)
      have v3:g5.cell? ⟨c8,0,none⟩=some (.pointer (some ⟨o,0,none⟩))/\g5.cell? ⟨jb,0,none⟩=some (.int .i64 (j:Int))/\g5.cell? ⟨g,j,none⟩=some (.slice (some ⟨rv,0,none⟩) D.n D.n) :=
       ⟨c.k8.cell,z.cell,by have H:=(k.top false).cell a1;rw[b6.out,E] at H;exact H⟩
      have d0:∀ b,gg b≠o:=fun b=>k.gne_of (show g5.heap[o]?=_ from c.sc) (by decide) b;have d5:∀ b j r,j<m->Rb b j=some r->r≠o:=fun b j r H h2=>k.rne_of (show g5.heap[o]?=_ from c.sc) (by decide) H h2;have H0:=a3;have f3:∀ (N:World) (lz:N.rowIs x7 9 D.n (fun q=>.string ((z4c D (sel3 (x i)) v D.n ((s2.1 true j).getD z1d,s2.2)).1 q))),Fr (fun q=>q=o\/q=x7) g5 N->Scl N o D (.slice a D.n cap) e6 (z4c D (sel3 (x i)) v D.n ((s2.1 true j).getD z1d,s2.2)).2 ->
        VR N w6.heap.size gg m D.n Rb (z2z D true j (sel3 (x i)) v s2).1/\WG w w6 N o c8 xb yb D (.slice a D.n cap) e6 (.slice ax na cx) (.slice ay nb cy) (z2z D true j (sel3 (x i)) v s2).2/\Bx N ib 3 (.int .i64 (i:Int))/\Bx N jb 3 (.int .i64 (j:Int)):=fun N lz fz sz=>by
       have H:=k.step2 a4.out Y fz d0 d5 lz (z6t a3 D.n c9);rw[z8t] at H;exact⟨H,c.stepped fz sz d.1 d.2,B.kept fz (fun e=>e.elim b0 li),z.kept fz (fun e=>e.elim a8 lj)⟩
      have y7:=qh b4;clear b4;have F6:=qh f3;clear f3;have b9:=qh E;clear E;have Z:(z2z D true j (sel3 (x i)) v s2).1 false j=some v:=(y0u X).trans y5.out;clear H0 F c B z Q G d b7 b8 f8 c9 a3 b0 a8 hP lx ly li lj d0 d5 hf k g1 Y X;have C1:=v3;refine U.out _ _ (.inr v3) ?_;clear U K
      try simp only[Act.put,tryL]
      refine z0c.on 10 fun K U=>?_;go_simp;refine y7.out.mono ?_;rintro r wu ⟨rfl,f5,a6,d2⟩;obtain⟨k,c,B,z⟩:=F6.out wu f5 d2 a6;refine U.out _ _ (.inl rfl) (z0c.dn ?_);clear U K C1 l6 f5 d2 a6 y7 F6 C8 g4 v3 v0 i2 A5 z7;obtain⟨s3,I5⟩:=exq (z2z D true j (sel3 (x i)) v s2);rw[<- I5] at k c Z;have M8:=qh I5;clear I5;have G1:=qh Z;clear Z;have J:=qh k;clear k;have l:=qh c;clear c;have I:=qh B;clear B;have a2:=qh z;clear z;have ci:=I.out.cell;have cj:=a2.out.cell;have b1:=l.out.kx.cell;have b2:=l.out.ky.cell
      go_wp2_with fail
      clear ci cj b1 b2;have a4:=qh (show (j+1)<m by have:=HM.out;omega);have h4:Fr (fun _=>False) wu wu.drew:=(Fr.refl _ _).drew;obtain⟨l4,w0⟩:=exq (wu.drew);rw[<- w0] at h4;have i6:=l.out.kept h4 (fun e=>e) (fun e=>e) (fun e=>e) (fun e=>e) (fun _ e=>e.elim);have n3:=J.out.kept h4 (fun _ e=>e) (fun _ _ _ _ _ e=>e);have F4:=I.out.kept h4 (fun e=>e);have s8:=a2.out.kept h4 (fun e=>e);have e9:l4.cell? ⟨c8,0,none⟩=some (.pointer (some ⟨o,0,none⟩))/\l4.cell? ⟨jb,0,none⟩=some (.int .i64 (j:Int))/\l4.cell? ⟨g,j,none⟩=some (.slice (some ⟨rv,0,none⟩) D.n D.n) :=
       ⟨i6.k8.cell,s8.cell,by have H:=(n3.top false).cell a1;rw[b6.out,b9.out] at H;exact H⟩
      have o9:=x3v (b:=true) (j:=(j+1)) l4 n3 i6.sc i6.k8.cell a4.out i6.gs.size HV.out.n1 (by have:=HV.out.n2;omega);rw[p9.out] at o9;have l6:IntKind.i64.wrap ((j:Int)+1)=(j:Int)+1:=by rw[IntKind.wrap_i64];have:=HM.out;omega
      rw[show (((j+1:Nat)):Int)=(j:Int)+1 by omega] at o9;have G0:=qh o9;clear o9;have h0:=qh i6;clear i6 l;have y3:=qh n3;clear n3 J;have u6:=qh F4;clear F4 I;have u5:=qh s8;clear s8 a2 h4;refine z0g (fun T=>T.cell? ⟨c8,0,none⟩=some (.pointer (some ⟨o,0,none⟩))/\T.cell? ⟨jb,0,none⟩=some (.int .i64 (j:Int))/\T.cell? ⟨g,j,none⟩=some (.slice (some ⟨rv,0,none⟩) D.n D.n)) 11 (by kernel_rfl) ?_;rw[<- w0];clear w0;refine z0c.tm 0 e9 ?_;refine z0c.tm 1 e9 ?_;refine z0c.tm 2 e9 ?_;refine z0c.tm 3 e9 ?_;refine z0c.tm 4 e9 ?_;refine z0c.tm 6 e9 ?_;refine z0c.tm 7 e9 ?_;refine z0c.tm 8 e9 ?_;refine z0c.tm 9 e9 ?_;refine z0c.tm 10 e9 ?_
      try simp only[Act.put,tryL]
      refine z0c.on 5 fun K U=>?_;go_simp;refine G0.out.mono ?_;rintro r g9 ⟨Rc,r6,rfl,Y,g1,k,hf⟩;have F:∀ q cs t fr,l4.heap[q]?=some (.cells cs t fr)->t≠102->¬ (q=gg true):=fun q cs t fr H h2 e=>y3.out.gne_of H h2 true e.symm;have c:=h0.out.kept hf (F o _ _ _ h0.out.sc (by decide)) (F c8 _ _ _ h0.out.k8 (by decide)) (F xb _ _ _ h0.out.kx (by decide)) (F yb _ _ _ h0.out.ky (by decide)) (fun q e=>by rw[e];exact y3.out.low true);have B:=u6.out.kept hf (F ib _ _ _ u6.out (by decide));have z:=u5.out.kept hf (F jb _ _ _ u5.out (by decide));have X:¬ (false=true/\j=(j+1)):=fun e=>by cases e.1
      have E:Rc false j=some rv:=(g1 false j X).trans b9.out;have Q:(updV s3.1 true (j+1) ((s3.1 true (j+1)).getD z1d)) false j=some v:=(y7y X).trans G1.out;have G:=k.row false j rv v a1 E Q;have d:=k.row true (j+1) r6 ((s3.1 true (j+1)).getD z1d) a4.out Y (z7d _ _ _ _);have b7:o≠r6:=(z0h d.1 (show g9.heap[o]?=_ from c.sc) (by decide)).symm;have b8:rv≠o:=z0h G.1 (show g9.heap[o]?=_ from c.sc) (by decide);have f8:rv≠r6:=fun e=>X (k.sep false j true (j+1) rv a1 a4.out E (by rw[e];exact Y));have c9:∀ q,smS (((s3.1 true (j+1)).getD z1d) q):=k.sm true (j+1) _ (z7d _ _ _ _);have a3:∀ q,smS (v q):=k.sm false j v Q;have b0:ib≠o:=Bx.ne_scl B c.sc;have a8:jb≠o:=Bx.ne_scl z c.sc;have hP:PWt w o xb yb ib jb (.slice ax na cx) (.slice ay nb cy) i j g9:=⟨c.hb,c.kx,c.ky,B,z,c.nx,c.ny,b0,a8⟩;have lx:=(z0h d.1 c.kx (by decide)).symm;have ly:=(z0h d.1 c.ky (by decide)).symm;have li:=(z0h d.1 B (by decide)).symm;have lj:=(z0h d.1 z (by decide)).symm;have b4:=y2s (nf:=87) (cap:=#[.pointer (some ⟨xb,0,none⟩),.pointer (some ⟨ib,0,none⟩),.pointer (some ⟨yb,0,none⟩),.pointer (some ⟨jb,0,none⟩)]) (sel:=sel4 (x i) (y j)) (P:=PWt w o xb yb ib jb (.slice ax na cx) (.slice ay nb cy) i j) w g9 HV.out j4.out c.hb i8.out c.sc d.1 G.1 c.lc (Nat.le_trans i9.out d.2) b7 f8 b8 c9 a3 i7.out.aw hP
       (fun wa wb hp hf=>hp.fr hf c.lc (Nat.le_trans i9.out d.2) lx ly li lj) (tst4 HX.out e1 HY.out j8)
      have r4:g9.cell? ⟨c8,0,none⟩=some (.pointer (some ⟨o,0,none⟩))/\g9.cell? ⟨jb,0,none⟩=some (.int .i64 (j:Int))/\g9.cell? ⟨g,j,none⟩=some (.slice (some ⟨rv,0,none⟩) D.n D.n) :=
       ⟨c.k8.cell,z.cell,by have H:=(k.top false).cell a1;rw[b6.out,E] at H;exact H⟩
      have d0:∀ b,gg b≠o:=fun b=>k.gne_of (show g9.heap[o]?=_ from c.sc) (by decide) b;have d5:∀ b j r,j<m->Rc b j=some r->r≠o:=fun b j r H h2=>k.rne_of (show g9.heap[o]?=_ from c.sc) (by decide) H h2;have H3:=a3;have f3:∀ (N:World) (lz:N.rowIs r6 9 D.n (fun q=>.string ((z4c D (sel4 (x i) (y j)) v D.n ((s3.1 true (j+1)).getD z1d,s3.2)).1 q))),Fr (fun q=>q=o\/q=r6) g9 N->Scl N o D (.slice a D.n cap) e6 (z4c D (sel4 (x i) (y j)) v D.n ((s3.1 true (j+1)).getD z1d,s3.2)).2 ->
        VR N w6.heap.size gg m D.n Rc (z2z D true (j+1) (sel4 (x i) (y j)) v s3).1/\WG w w6 N o c8 xb yb D (.slice a D.n cap) e6 (.slice ax na cx) (.slice ay nb cy) (z2z D true (j+1) (sel4 (x i) (y j)) v s3).2/\Bx N ib 3 (.int .i64 (i:Int))/\Bx N jb 3 (.int .i64 (j:Int)):=fun N lz fz sz=>by
       have H:=k.step2 a4.out Y fz d0 d5 lz (z6t a3 D.n c9);rw[z8t] at H;exact⟨H,c.stepped fz sz d.1 d.2,B.kept fz (fun e=>e.elim b0 li),z.kept fz (fun e=>e.elim a8 lj)⟩
      have v8:=qh b4;clear b4;have E5:=qh f3;clear f3;have b9:=qh E;clear E;have Z:(z2z D true (j+1) (sel4 (x i) (y j)) v s3).1 false j=some v:=(y0u X).trans G1.out;clear H3 F c B z Q G d b7 b8 f8 c9 a3 b0 a8 hP lx ly li lj d0 d5 hf k g1 Y X;have B0:=r4;refine U.out _ _ (.inr r4) ?_;clear U K
      try simp only[Act.put,tryL]
      refine z0c.on 11 fun K U=>?_;go_simp;refine v8.out.mono ?_;rintro r wv ⟨rfl,f5,a6,d2⟩;obtain⟨k,c,B,z⟩:=E5.out wv f5 d2 a6;refine U.out _ _ (.inl rfl) (z0c.dn ?_);clear U K B0 l6 f5 d2 a6 v8 E5 G0 e9 r4 y3 h0 u6 u5;obtain⟨s4,G6⟩:=exq (z2z D true (j+1) (sel4 (x i) (y j)) v s3);rw[<- G6] at k c Z;have M0:=qh G6;clear G6;have N1:=qh Z;clear Z;have J:=qh k;clear k;have l:=qh c;clear c;have I:=qh B;clear B;have a2:=qh z;clear z;have ci:=I.out.cell;have cj:=a2.out.cell;have b1:=l.out.kx.cell;have b2:=l.out.ky.cell
      go_wp2_with fail
      clear ci cj b1 b2;go_roundw
      case rel=>exact⟨j+1,_,s4,by have:=g7.out;omega,by go_num,by rw[d9.out];unfold cell1 cell2 cell3;rw[if_pos j8,if_pos e1,if_pos ⟨e1,j8⟩,M0.out,M8.out,B3.out],J.out,l.out,I.out⟩
      simp[intOf];have:=g7.out;omega
     have j2:¬ ((i:Int)<(na:Int)):=by omega
     have ci:=I.out.cell;have cj:=a2.out.cell;have b1:=l.out.kx.cell;have b2:=l.out.ky.cell
     go_wp2_with fail
     clear ci cj b1 b2;go_roundw
     case rel=>exact⟨j+1,_,s2,by have:=g7.out;omega,by go_num,by rw[d9.out];unfold cell1 cell2 cell3;rw[if_pos j8,if_neg e1,if_neg (fun h=>e1 h.1),B3.out],J.out,l.out,I.out⟩
     simp[intOf];have:=g7.out;omega
    have J3:¬ ((j:Int)<(nb:Int)):=by omega
    by_cases e1:i<na
    ·have j2:(i:Int)<(na:Int):=by omega
     have ci:=I.out.cell;have cj:=a2.out.cell;have b1:=l.out.kx.cell;have b2:=l.out.ky.cell
     go_wp2_with fail
     clear ci cj b1 b2;have a4:=qh (show j<m by have:=HM.out;omega);have i3:Fr (fun _=>False) ws ws.drew:=(Fr.refl _ _).drew;obtain⟨m9,u4⟩:=exq (ws.drew);rw[<- u4] at i3;have u:=l.out.kept i3 (fun e=>e) (fun e=>e) (fun e=>e) (fun e=>e) (fun _ e=>e.elim);have a7:=J.out.kept i3 (fun _ e=>e) (fun _ _ _ _ _ e=>e);have j9:=I.out.kept i3 (fun e=>e);have f7:=a2.out.kept i3 (fun e=>e);have g8:m9.cell? ⟨c8,0,none⟩=some (.pointer (some ⟨o,0,none⟩))/\m9.cell? ⟨jb,0,none⟩=some (.int .i64 (j:Int))/\m9.cell? ⟨g,j,none⟩=some (.slice (some ⟨rv,0,none⟩) D.n D.n) :=
      ⟨u.k8.cell,f7.cell,by have H:=(a7.top false).cell a1;rw[b6.out,b9.out] at H;exact H⟩
     have y6:=x3v (b:=true) (j:=j) m9 a7 u.sc u.k8.cell a4.out u.gs.size HV.out.n1 (by have:=HV.out.n2;omega);rw[p9.out] at y6;have l6:=HV.out;have E3:=qh y6;clear y6;have h9:=qh u;clear u l;have v6:=qh a7;clear a7 J;have x2:=qh j9;clear j9 I;have v7:=qh f7;clear f7 a2 i3;refine z0g (fun T=>T.cell? ⟨c8,0,none⟩=some (.pointer (some ⟨o,0,none⟩))/\T.cell? ⟨jb,0,none⟩=some (.int .i64 (j:Int))/\T.cell? ⟨g,j,none⟩=some (.slice (some ⟨rv,0,none⟩) D.n D.n)) 10 (by kernel_rfl) ?_;rw[<- u4];clear u4;refine z0c.tm 0 g8 ?_;refine z0c.tm 1 g8 ?_;refine z0c.tm 2 g8 ?_;refine z0c.tm 3 g8 ?_;refine z0c.tm 5 g8 ?_;refine z0c.tm 6 g8 ?_;refine z0c.tm 7 g8 ?_;refine z0c.tm 8 g8 ?_;refine z0c.tm 9 g8 ?_
     try simp only[Act.put,tryL]
     refine z0c.on 4 fun K U=>?_;go_simp;refine E3.out.mono ?_;rintro r g6 ⟨Rd,x0,rfl,Y,g1,k,hf⟩;have F:∀ q cs t fr,m9.heap[q]?=some (.cells cs t fr)->t≠102->¬ (q=gg true):=fun q cs t fr H h2 e=>v6.out.gne_of H h2 true e.symm;have c:=h9.out.kept hf (F o _ _ _ h9.out.sc (by decide)) (F c8 _ _ _ h9.out.k8 (by decide)) (F xb _ _ _ h9.out.kx (by decide)) (F yb _ _ _ h9.out.ky (by decide)) (fun q e=>by rw[e];exact v6.out.low true);have B:=x2.out.kept hf (F ib _ _ _ x2.out (by decide));have z:=v7.out.kept hf (F jb _ _ _ v7.out (by decide));have X:¬ (false=true/\j=j):=fun e=>by cases e.1
     have E:Rd false j=some rv:=(g1 false j X).trans b9.out;have Q:(updV s1.1 true j ((s1.1 true j).getD z1d)) false j=some v:=(y7y X).trans o5.out;have G:=k.row false j rv v a1 E Q;have d:=k.row true j x0 ((s1.1 true j).getD z1d) a4.out Y (z7d _ _ _ _);have b7:o≠x0:=(z0h d.1 (show g6.heap[o]?=_ from c.sc) (by decide)).symm;have b8:rv≠o:=z0h G.1 (show g6.heap[o]?=_ from c.sc) (by decide);have f8:rv≠x0:=fun e=>X (k.sep false j true j rv a1 a4.out E (by rw[e];exact Y));have c9:∀ q,smS (((s1.1 true j).getD z1d) q):=k.sm true j _ (z7d _ _ _ _);have a3:∀ q,smS (v q):=k.sm false j v Q;have b0:ib≠o:=Bx.ne_scl B c.sc;have a8:jb≠o:=Bx.ne_scl z c.sc;have hP:PWt w o xb yb ib jb (.slice ax na cx) (.slice ay nb cy) i j g6:=⟨c.hb,c.kx,c.ky,B,z,c.nx,c.ny,b0,a8⟩;have lx:=(z0h d.1 c.kx (by decide)).symm;have ly:=(z0h d.1 c.ky (by decide)).symm;have li:=(z0h d.1 B (by decide)).symm;have lj:=(z0h d.1 z (by decide)).symm;have b4:=y2s (nf:=86) (cap:=#[.pointer (some ⟨xb,0,none⟩),.pointer (some ⟨ib,0,none⟩)]) (sel:=sel3 (x i)) (P:=PWt w o xb yb ib jb (.slice ax na cx) (.slice ay nb cy) i j) w g6 HV.out j4.out c.hb i8.out c.sc d.1 G.1 c.lc (Nat.le_trans i9.out d.2) b7 f8 b8 c9 a3 i7.out.aw hP
      (fun wa wb hp hf=>hp.fr hf c.lc (Nat.le_trans i9.out d.2) lx ly li lj) (tst3 HX.out e1)
     have v2:g6.cell? ⟨c8,0,none⟩=some (.pointer (some ⟨o,0,none⟩))/\g6.cell? ⟨jb,0,none⟩=some (.int .i64 (j:Int))/\g6.cell? ⟨g,j,none⟩=some (.slice (some ⟨rv,0,none⟩) D.n D.n) :=
      ⟨c.k8.cell,z.cell,by have H:=(k.top false).cell a1;rw[b6.out,E] at H;exact H⟩
     have d0:∀ b,gg b≠o:=fun b=>k.gne_of (show g6.heap[o]?=_ from c.sc) (by decide) b;have d5:∀ b j r,j<m->Rd b j=some r->r≠o:=fun b j r H h2=>k.rne_of (show g6.heap[o]?=_ from c.sc) (by decide) H h2;have G9:=a3;have f3:∀ (N:World) (lz:N.rowIs x0 9 D.n (fun q=>.string ((z4c D (sel3 (x i)) v D.n ((s1.1 true j).getD z1d,s1.2)).1 q))),Fr (fun q=>q=o\/q=x0) g6 N->Scl N o D (.slice a D.n cap) e6 (z4c D (sel3 (x i)) v D.n ((s1.1 true j).getD z1d,s1.2)).2 ->
       VR N w6.heap.size gg m D.n Rd (z2z D true j (sel3 (x i)) v s1).1/\WG w w6 N o c8 xb yb D (.slice a D.n cap) e6 (.slice ax na cx) (.slice ay nb cy) (z2z D true j (sel3 (x i)) v s1).2/\Bx N ib 3 (.int .i64 (i:Int))/\Bx N jb 3 (.int .i64 (j:Int)):=fun N lz fz sz=>by
      have H:=k.step2 a4.out Y fz d0 d5 lz (z6t a3 D.n c9);rw[z8t] at H;exact⟨H,c.stepped fz sz d.1 d.2,B.kept fz (fun e=>e.elim b0 li),z.kept fz (fun e=>e.elim a8 lj)⟩
     have A0:=qh b4;clear b4;have E8:=qh f3;clear f3;have b9:=qh E;clear E;have Z:(z2z D true j (sel3 (x i)) v s1).1 false j=some v:=(y0u X).trans o5.out;clear G9 F c B z Q G d b7 b8 f8 c9 a3 b0 a8 hP lx ly li lj d0 d5 hf k g1 Y X;have B9:=v2;refine U.out _ _ (.inr v2) ?_;clear U K
     try simp only[Act.put,tryL]
     refine z0c.on 10 fun K U=>?_;go_simp;refine A0.out.mono ?_;rintro r wt ⟨rfl,f5,a6,d2⟩;obtain⟨k,c,B,z⟩:=E8.out wt f5 d2 a6;refine U.out _ _ (.inl rfl) (z0c.dn ?_);clear U K B9 l6 f5 d2 a6 A0 E8 E3 g8 v2 v6 h9 x2 v7;obtain⟨s2,a6⟩:=exq (z2z D true j (sel3 (x i)) v s1);rw[<- a6] at k c Z;have B3:=qh a6;clear a6;have y5:=qh Z;clear Z;have J:=qh k;clear k;have l:=qh c;clear c;have I:=qh B;clear B;have a2:=qh z;clear z;have ci:=I.out.cell;have cj:=a2.out.cell;have b1:=l.out.kx.cell;have b2:=l.out.ky.cell
     go_wp2_with fail
     clear ci cj b1 b2;go_roundw
     case rel=>exact⟨j+1,_,s2,by have:=g7.out;omega,by go_num,by rw[d9.out];unfold cell1 cell2 cell3;rw[if_neg j8,if_pos e1,if_neg (fun h=>j8 h.2),B3.out],J.out,l.out,I.out⟩
     simp[intOf];have:=g7.out;omega
    have j2:¬ ((i:Int)<(na:Int)):=by omega
    have ci:=I.out.cell;have cj:=a2.out.cell;have b1:=l.out.kx.cell;have b2:=l.out.ky.cell
    go_wp2_with fail
    clear ci cj b1 b2;go_roundw
    case rel=>exact⟨j+1,_,s1,by have:=g7.out;omega,by go_num,by rw[d9.out];unfold cell1 cell2 cell3;rw[if_neg j8,if_neg e1,if_neg (fun h=>e1 h.1)],J.out,l.out,I.out⟩
    simp[intOf];have:=g7.out;omega
  have K5:j=m:=by omega
  obtain⟨s1,rfl⟩:=exq (sp);obtain⟨R,rfl⟩:=exq (Rp);have N8:¬ ((j:Int)<(m:Int)):=by omega
  have I3:nb<m:=by have:=HM.out;omega
  have O4:(nb:Int)<(m:Int):=by omega
  have N3:(0:Int)<=(nb:Int):=by omega
  subst K5;have hk:na+1-i=(na-i)+1:=by omega
  have c7:=B6.out;rw[hk] at c7;unfold outG at c7;rw[if_neg (by simp),<- J7.out,<- HM.out,<- B4.out] at c7;clear hk B6;have ci:=I.out.cell;have b1:=l.out.kx.cell;have b2:=l.out.ky.cell;have hg:=(J.out.top false).cell I3;rw[b6.out] at hg;cases hf:s1.1 false nb with
  | none =>
   have hr:=(J.out.non false nb I3).2 hf;rw[hr] at hg;have k9:wr.cell? ⟨g,nb,none⟩=some (.slice none 0 0):=hg;have hq:=fun w=>x7n 102 9 underlying102 w none 0 0;rw[show (!(none:Option Addr).isNone)=false from rfl] at hq;rw[if_neg (fun h=>by rw[hf] at h;cases h.2)] at c7;have k5:=qh c7;clear c7 hf hr hg;by_cases j3:i=na
   ·have F8:na=i:=j3.symm;rw[F8] at k5;subst F8;obtain⟨d8,b3⟩:=exq (wr.heap.size);obtain⟨N,d3⟩:=exq (wr.alloc (.cells #[.int .i64 ((na:Int)+1)] 3));have a5:Fr (fun _=>False) wr N:=by rw[d3];exact Fr.alloc wr _
    have k2:Bx N d8 3 (.int .i64 ((na+1:Nat):Int)):=by rw[d3,b3];exact heap_alloc_new wr _
    have k0:=qh (l.out.kept a5 (fun e=>e) (fun e=>e) (fun e=>e) (fun e=>e) (fun _ e=>e.elim));have f2:=(J.out.one true).kept a5;rw[p9.out] at f2;have j5:=qh f2;clear f2;have j6:=qh k2;clear k2 a5
    go_wp2_with fail
    rw[<- d3,<- b3];clear d3 b3;go_roundw
    case rel=>exact⟨na+1,s1.2,g2,d8,_,_,by omega,rfl,rfl,j6.out,j5.out,k0.out,by rw[show na+1-(na+1)=na-na by omega];exact k5.out⟩
    rw[y7v j6.out.cell,HI.out];omega
   have J4:¬ ((i:Int)=(na:Int)):=by omega
   obtain⟨d8,b3⟩:=exq (wr.heap.size);obtain⟨N,d3⟩:=exq (wr.alloc (.cells #[.int .i64 ((i:Int)+1)] 3));have a5:Fr (fun _=>False) wr N:=by rw[d3];exact Fr.alloc wr _
   have k2:Bx N d8 3 (.int .i64 ((i+1:Nat):Int)):=by rw[d3,b3];exact heap_alloc_new wr _
   have k0:=qh (l.out.kept a5 (fun e=>e) (fun e=>e) (fun e=>e) (fun e=>e) (fun _ e=>e.elim));have f2:=(J.out.one true).kept a5;rw[p9.out] at f2;have j5:=qh f2;clear f2;have j6:=qh k2;clear k2 a5
   go_wp2_with fail
   rw[<- d3,<- b3];clear d3 b3;go_roundw
   case rel=>exact⟨i+1,s1.2,g2,d8,_,_,by omega,rfl,rfl,j6.out,j5.out,k0.out,by rw[show na+1-(i+1)=na-i by omega];exact k5.out⟩
   rw[y7v j6.out.cell,HI.out];omega
  | some v =>
   obtain⟨rv,l7,G,_⟩:=J.out.some_of I3 hf;rw[l7] at hg;have k9:wr.cell? ⟨g,nb,none⟩=some (.slice (some ⟨rv,0,none⟩) D.n D.n):=hg;have hq:=fun w=>x7n 102 9 underlying102 w (some ⟨rv,0,none⟩) D.n D.n;rw[show (!(some (⟨rv,0,none⟩:Addr)).isNone)=true from rfl] at hq;by_cases j3:i=na
   ·subst j3;rw[if_pos ⟨rfl,by rw[hf];rfl⟩,hf] at c7;have p0:=qh (show wgtG D st e0 i x nb y=finC D v s1.2 from c7.symm);clear c7;have a9:Fr (fun _=>False) wr wr.drew:=(Fr.refl _ _).drew;obtain⟨wd,e4⟩:=exq (wr.drew);rw[<- e4] at a9;have u:=l.out.kept a9 (fun e=>e) (fun e=>e) (fun e=>e) (fun e=>e) (fun _ e=>e.elim);have a7:=J.out.kept a9 (fun _ e=>e) (fun _ _ _ _ _ e=>e);have l1:=a9.row G (fun e=>e);have A4:wd.cell? ⟨g,nb,none⟩=some (.slice (some ⟨rv,0,none⟩) D.n D.n):=a9.cell k9 (fun e=>e);have W:wd.cell? ⟨c8,0,none⟩=some (.pointer (some ⟨o,0,none⟩))/\wd.cell? ⟨yb,0,none⟩=some (.slice ay nb cy)/\wd.cell? ⟨g,nb,none⟩=some (.slice (some ⟨rv,0,none⟩) D.n D.n):=⟨u.k8.cell,u.ky.cell,A4⟩;have r8:=qh (y1w (v:=v) w wd HV.out j4.out u.hb i8.out u.sc l1 u.lc (z0h l1 (show wd.heap[o]?=_ from u.sc) (by decide)) (J.out.sm false nb v hf) i7.out.fin);have M2:=qh u.n8;have M3:=qh u.ny;have M1:=qh (show g≠o by rw[<- b6.out];exact a7.gne_of (show wd.heap[o]?=_ from u.sc) (by decide) false);have l:=qh u;clear u a7 l1 A4 a9;clear hf l7 G hg
    go_wp2_with fail
    refine z0g (fun T=>T.cell? ⟨c8,0,none⟩=some (.pointer (some ⟨o,0,none⟩))/\T.cell? ⟨yb,0,none⟩=some (.slice ay nb cy)/\T.cell? ⟨g,nb,none⟩=some (.slice (some ⟨rv,0,none⟩) D.n D.n)) 10 (by kernel_rfl) ?_;rw[<- e4];clear e4;refine z0c.tm 0 W ?_;refine z0c.tm 1 W ?_;refine z0c.tm 2 W ?_;refine z0c.tm 3 W ?_;refine z0c.tm 4 W ?_;refine z0c.tm 5 W ?_
    try simp only[Act.put,tryL]
    refine z0c.on 6 fun K U=>?_;go_simp;refine r8.out.mono ?_;rintro r wf ⟨rfl,e3⟩;have d1:wf.cell? ⟨c8,0,none⟩=some (.pointer (some ⟨o,0,none⟩))/\wf.cell? ⟨yb,0,none⟩=some (.slice ay nb cy)/\wf.cell? ⟨g,nb,none⟩=some (.slice (some ⟨rv,0,none⟩) D.n D.n) :=
     ⟨e3.cell W.1 M2.out,e3.cell W.2.1 M3.out,e3.cell W.2.2 M1.out⟩
    have A6:=qh e3;clear e3;refine U.out _ _ (.inr d1) ?_;clear U K
    try simp only[Act.put,tryL]
    refine z0c.tm 7 d1 ?_;refine z0c.tm 8 d1 ?_;refine z0c.tm 9 d1 ?_
    try simp only[Act.put,tryL]
    refine z0c.on 10 fun K U=>?_;go_simp;refine U.out _ _ (.inl rfl) (z0c.dn ?_);clear U K;go_wp2;go_ret2;exact⟨l.out.hb.trans (A6.out.below l.out.hb.size (fun q e=>by rw[e];exact l.out.lc)),.inl ⟨HV.out,H9.out,G7.out,st,e0,z6.out,by rw[p0.out];rfl⟩⟩
   have J4:¬ ((i:Int)=(na:Int)):=by omega
   rw[if_neg (fun h=>j3 h.1)] at c7;have k5:=qh c7;clear c7 hf l7 G hg;obtain⟨d8,b3⟩:=exq (wr.heap.size);obtain⟨N,d3⟩:=exq (wr.alloc (.cells #[.int .i64 ((i:Int)+1)] 3));have a5:Fr (fun _=>False) wr N:=by rw[d3];exact Fr.alloc wr _
   have k2:Bx N d8 3 (.int .i64 ((i+1:Nat):Int)):=by rw[d3,b3];exact heap_alloc_new wr _
   have k0:=qh (l.out.kept a5 (fun e=>e) (fun e=>e) (fun e=>e) (fun e=>e) (fun _ e=>e.elim));have f2:=(J.out.one true).kept a5;rw[p9.out] at f2;have j5:=qh f2;clear f2;have j6:=qh k2;clear k2 a5
   go_wp2_with fail
   rw[<- d3,<- b3];clear d3 b3;go_roundw
   case rel=>exact⟨i+1,s1.2,g2,d8,_,_,by omega,rfl,rfl,j6.out,j5.out,k0.out,by rw[show na+1-(i+1)=na-i by omega];exact k5.out⟩
   rw[y7v j6.out.cell,HI.out];omega
 have p0:=qh (show wgtG D st e0 na x nb y=finC D z1d e by
  rw[<- B6.out];by_cases e1:i=na+1
  ·rw[show na+1-i=0 by omega];rfl
  rw[show na+1-i=(na-i)+1 by omega];unfold outG;rw[if_pos (fun h=>j3 ⟨by omega,h⟩)])
 have a9:Fr (fun _=>False) wr wr.drew:=(Fr.refl _ _).drew;obtain⟨wd,e4⟩:=exq (wr.drew);rw[<- e4] at a9;have u:=l.out.kept a9 (fun e=>e) (fun e=>e) (fun e=>e) (fun e=>e) (fun _ e=>e.elim);have W:wd.cell? ⟨c8,0,none⟩=some (.pointer (some ⟨o,0,none⟩)):=u.k8.cell;have J1:=qh (y0f wd u.sc HV.out.n1 (by have:=HV.out.n2;omega));have l:=qh u;clear u a9 B6 J I;by_cases e1:i<=na
 ·have j2:(i:Int)<=(na:Int):=by omega
  have O5:¬ ((e:Int)=0):=by have:=fun h:e=0=>j3 ⟨e1,h⟩;omega
  go_wp2_with fail
  refine z0g (fun T=>T.cell? ⟨c8,0,none⟩=some (.pointer (some ⟨o,0,none⟩))) 7 (by kernel_rfl) ?_;rw[<- e4];clear e4;refine z0c.tm 0 W ?_;refine z0c.tm 1 W ?_
  try simp only[Act.put,tryL]
  refine z0c.on 2 fun K U=>?_;go_simp;refine J1.out.mono ?_;rintro r wa ⟨rfl,d7,A8,_⟩;obtain⟨z8,f9⟩:=exq (wd.heap.size);rw[<- f9] at d7;rw[<- f9];have L:=l.out.kept A8 (fun e=>e) (fun e=>e) (fun e=>e) (fun e=>e) (fun _ e=>e.elim);have d1:wa.cell? ⟨c8,0,none⟩=some (.pointer (some ⟨o,0,none⟩)):=L.k8.cell;have r8:=qh (y1w (v:=z1d) w wa HV.out j4.out L.hb i8.out L.sc d7 L.lc (z0h d7 (show wa.heap[o]?=_ from L.sc) (by decide)) z8f i7.out.fin);have e2:=qh L;clear L d7 A8 f9;refine U.out _ _ (.inr d1) ?_;clear U K
  try simp only[Act.put,tryL]
  refine z0c.on 3 fun K U=>?_;go_simp;refine r8.out.mono ?_;rintro r wf ⟨rfl,e3⟩;have j1:wf.cell? ⟨c8,0,none⟩=some (.pointer (some ⟨o,0,none⟩)):=e3.cell d1 e2.out.n8;have A6:=qh e3;clear e3;refine U.out _ _ (.inr j1) ?_;clear U K
  try simp only[Act.put,tryL]
  refine z0c.tm 4 j1 ?_;refine z0c.tm 5 j1 ?_;refine z0c.tm 6 j1 ?_
  try simp only[Act.put,tryL]
  refine z0c.on 7 fun K U=>?_;go_simp;refine U.out _ _ (.inl rfl) (z0c.dn ?_);clear U K;go_wp2;go_ret2;exact⟨e2.out.hb.trans (A6.out.below e2.out.hb.size (fun q e=>by rw[e];exact e2.out.lc)),.inl ⟨HV.out,H9.out,G7.out,st,e0,z6.out,by rw[p0.out];rfl⟩⟩
 have j2:¬ ((i:Int)<=(na:Int)):=by omega
 go_wp2_with fail
 refine z0g (fun T=>T.cell? ⟨c8,0,none⟩=some (.pointer (some ⟨o,0,none⟩))) 7 (by kernel_rfl) ?_;rw[<- e4];clear e4;refine z0c.tm 0 W ?_;refine z0c.tm 1 W ?_
 try simp only[Act.put,tryL]
 refine z0c.on 2 fun K U=>?_;go_simp;refine J1.out.mono ?_;rintro r wa ⟨rfl,d7,A8,_⟩;obtain⟨z8,f9⟩:=exq (wd.heap.size);rw[<- f9] at d7;rw[<- f9];have L:=l.out.kept A8 (fun e=>e) (fun e=>e) (fun e=>e) (fun e=>e) (fun _ e=>e.elim);have d1:wa.cell? ⟨c8,0,none⟩=some (.pointer (some ⟨o,0,none⟩)):=L.k8.cell;have r8:=qh (y1w (v:=z1d) w wa HV.out j4.out L.hb i8.out L.sc d7 L.lc (z0h d7 (show wa.heap[o]?=_ from L.sc) (by decide)) z8f i7.out.fin);have e2:=qh L;clear L d7 A8 f9;refine U.out _ _ (.inr d1) ?_;clear U K
 try simp only[Act.put,tryL]
 refine z0c.on 3 fun K U=>?_;go_simp;refine r8.out.mono ?_;rintro r wf ⟨rfl,e3⟩;have j1:wf.cell? ⟨c8,0,none⟩=some (.pointer (some ⟨o,0,none⟩)):=e3.cell d1 e2.out.n8;have A6:=qh e3;clear e3;refine U.out _ _ (.inr j1) ?_;clear U K
 try simp only[Act.put,tryL]
 refine z0c.tm 4 j1 ?_;refine z0c.tm 5 j1 ?_;refine z0c.tm 6 j1 ?_
 try simp only[Act.put,tryL]
 refine z0c.on 7 fun K U=>?_;go_simp;refine U.out _ _ (.inl rfl) (z0c.dn ?_);clear U K;go_wp2;go_ret2;exact⟨e2.out.hb.trans (A6.out.below e2.out.hb.size (fun q e=>by rw[e];exact e2.out.lc)),.inl ⟨HV.out,H9.out,G7.out,st,e0,z6.out,by rw[p0.out];rfl⟩⟩
end
section
open Go.RowKit Go.Deep
end
section
open Go.RowKit Go.Deep
end
section
open Go.RowKit Go.Deep
theorem StV.below {w d:World} {c:Value} {n:Nat} {st:StarO} (h:StV w c n st) (hb:Below w.heap.size w d):StV d c n st:=by
 cases st with
 | none=>exact h
 | some S=>exact⟨h.1.kept (z0b hb none),h.2⟩
end
section
open Go.RowKit Go.Deep
def SumR (w:World) (sb:Nat) (k:Int) (e:Nat):Prop:=w.heap[sb]?=some (.cells #[.int .i64 k,.bool (decide (e≠0))] 156 (0,0))
theorem SumR.lt {w:World} {c e:Nat} {k:Int} (h:SumR w c k e):c<w.heap.size:=(Array.getElem?_eq_some_iff.1 h).1
theorem SumR.c1 {w:World} {c e:Nat} {k:Int} (h:SumR w c k e) {b:Bool} (hb:decide (e≠0)=b):w.cell? ⟨c,1,none⟩=some (.bool b):=by unfold SumR at h;rw[hb] at h;simp[World.cell?,h]
theorem SumR.set {w:World} {c e e':Nat} {k:Int} (h:SumR w c k e) {b:Bool} (hb:decide (e'≠0)=b):SumR (w.setCell ⟨c,1,none⟩ (.bool b)) c k e':=by
 unfold SumR at *;rw[hb];simp[World.setCell,Array.getElem?_modify,h]
theorem SumR.kept {w d:World} {c e:Nat} {k:Int} (h:SumR w c k e) (hb:Below w.heap.size w d):SumR d c k e:=by
 unfold SumR at *;rw[hb.block c (Array.getElem?_eq_some_iff.1 h).1];exact h
end
section
open Go.RowKit Go.Deep
def LR (n c d l:Nat):Nat:=if l<c then n else if l=c then d else 0
theorem u3s {n c:Nat} (l:Nat):LR n c n l=LR n (c+1) 0 l:=by
 unfold LR;by_cases e:l<c
 ·rw[if_pos e,if_pos (by omega)]
 by_cases d:l=c
 ·rw[if_neg e,if_pos d,if_pos (by omega)]
 rw[if_neg e,if_neg d,if_neg (by omega)];split<;>rfl
structure Bz (w wr:World) (gB n d m:Nat) (R:Nat->Value) (x:ByteArray):Prop where
 om:OM wr (fun _=>False) gB 9 79 gB n R (LR n d m) (fun _ _=>x)
 gr:Below gB w wr
 wg:w.heap.size<=gB
namespace Bz
variable {w wr w4 wz wa:World} {gB n d m:Nat} {R:Nat->Value} {x:ByteArray}
theorem start (w:World) (x:ByteArray):Bz w (w.alloc (.cells (madeCells #[.slice none 0 0] n) 79)) w.heap.size n 0 0 (fun _=>.slice none 0 0) x :=
 ⟨(OM.made w (fun _=>False) (by simp) w.heap.size nlr 9 79 n _).congrL fun l _=>by unfold LR;split<;>(try split)<;>first|rfl|omega,blr.alloc nlr _,nlr⟩
theorem row (h:Bz w wr gB n d n R x):Bz w wr gB n (d+1) 0 R x:=⟨h.om.congrL fun l _=>u3s l,h.gr,h.wg⟩
end Bz
end
section
open Go.RowKit Go.Deep
def Rw1 (w:World) (g sb gc n:Nat) (Y:Nat->Nat->ByteArray) (i:Nat):Prop :=
 ∃ rb cap,w.cell? ⟨g,i,none⟩=some (.slice (some ⟨rb,0,none⟩) n cap)/\rb<gc/\rb≠sb/\n<=cap/\cap<=9223372036854775807/\∀ j,j<n->w.cell? ⟨rb,j,none⟩=some (.string (Y i j))
theorem Rw1.gr {w wr:World} {g d c n:Nat} {Y:Nat->Nat->ByteArray} {i:Nat} (h:Rw1 w g d c n Y i) (m:Gr c (some d) w wr) (B:g<c) (l:g≠d):Rw1 wr g d c n Y i:=by
 obtain⟨s,k,A,p,o,C,D,z⟩:=h;exact⟨s,k,(World.cell?_of_block (m.block g B (by simp;exact l))).trans A,p,o,C,D,fun j u=>(World.cell?_of_block (m.block s p (by simp;exact o))).trans (z j u)⟩
end
section
open Go.RowKit Go.Deep
end
section
open Go.RowKit Go.Deep
def sel8 (lo:Bool) (i o:Int):Bool:=decide (i=0)&&(decide (o=0)||lo)
def sr8 (D:MD) (sel:Int->Int->Bool) (q:Nat):Nat->Nat->ByteArray
 | 0=>zerR D.kind
 | d+1=>if sel (D.ain q d) (D.aout q d)=true then updS (sr8 D sel q d) (D.ato q d).toNat (z1i D.kind (sr8 D sel q d (D.ato q d).toNat) (D.aw q d)).1 else sr8 D sel q d
def sm8 (D:MD) (sel:Int->Int->Bool) (q:Nat):Nat->ByteArray:=sr8 D sel q (D.na q)
def Sil8 (D:MD) (sel:Int->Int->Bool) (st:StarO) (e:Nat):Prop :=
 (NoSel D sel/\st=none/\e=0) \/
 (D.n<=60/\e=0/\∃ S,st=some S/\∀ k:KK,k.1=D.kind->∀ q p,q<D.n->p<D.n->Sv k (S q p) (CSR.starM (sils (rmOf k D) sel) D.n q p)) \/
 (e≠0/\st=none)
theorem Sil8.st {D:MD} {st:StarO} (h:Sil8 D silB st 0) {k:KK} (m:k.1=D.kind):StOk k D st:=by
 rcases h with ⟨d,rfl,_⟩|⟨_,_,S,rfl,o⟩|⟨d,_⟩
 ·intro q p c g;rw[<- y0w];exact SilOk.nosil d k q p c
 ·intro q p c g;have l:=o k m q p c g;rw[CSR.starM_congr (M':=sil (rmOf k D)) (fun i j _ _=>y0w _ i j) q p c g] at l;exact l
 exact absurd rfl d
section
open CSR
variable {D:MD} (hV:VM D) {k:KK} (hk:k.1=D.kind)
include hV hk
end
structure S8I (D:MD) (sel:Int->Int->Bool) (w wr:World) (mb g:Nat) (sv:Value) (rb:Nat->Nat) (q:Nat):Prop where
 bx:BxM wr mb D sv
 be:Below w.heap.size w wr
 gr:wr.rowIs g 79 D.n (fun i=>if i<q then .slice (some ⟨rb i,0,none⟩) D.n D.n else .slice none 0 0)
 rows:∀ i,i<q->wr.rowIs (rb i) 9 D.n (fun j=>.string (sm8 D sel i j))
 gl:w.heap.size<=g
 mg:mb≠g
structure S8R (D:MD) (sel:Int->Int->Bool) (w wr:World) (mb g:Nat) (sv:Value) (rb:Nat->Nat) (q lb:Nat) (l:Nat->ByteArray):Prop where
 bx:BxM wr mb D sv
 be:Below w.heap.size w wr
 gr:wr.rowIs g 79 D.n (fun i=>if i<q+1 then .slice (some ⟨if i=q then lb else rb i,0,none⟩) D.n D.n else .slice none 0 0)
 rows:∀ i,i<q->wr.rowIs (rb i) 9 D.n (fun j=>.string (sm8 D sel i j))/\rb i≠lb
 rl:wr.rowIs lb 9 D.n (fun j=>.string (l j))
 gl:w.heap.size<=g
 mg:mb≠g
 ll:w.heap.size<=lb
 ml:mb≠lb
 nl:g≠lb
section
variable {D:MD} {sel:Int->Int->Bool} {w wr wz:World} {mb g lb q:Nat} {sv:Value} {rb:Nat->Nat} {l:Nat->ByteArray}
theorem S8R.done (h:S8R D sel w wr mb g sv rb q lb (sr8 D sel q (D.na q))):S8I D sel w wr mb g sv (fun i=>if i=q then lb else rb i) (q+1) :=
 ⟨h.bx,h.be,h.gr,fun i hi=>by
  by_cases e:i=q
  ·subst e;simp only[if_pos];exact h.rl
  simp only[if_neg e];exact(h.rows i (by omega)).1,h.gl,h.mg⟩
end
end
section
open Go.RowKit Go.Deep
theorem x7w {n:Nat} {v:Value} {x:Nat->Int} (w:World) (B:Si none w v n x) (hn:(n:Int)<=9223372036854775807) :
  Calls prog 46 #[v] w (fun r w'=>r=.returned (.bool (isWord n x))/\w'=w):=by
 obtain⟨a,Q,b,O,rfl,D,U,S,hb,d⟩:=B.open;unfold maxLen at S;have I:=qh D;clear D;have H:=qh d;clear d B hb;by_cases P:(200:Int)<(n:Int)
 ·have A:isWord n x=false:=by unfold isWord;rw[show decide (n<=200)=false by simp;omega];rfl
  rw[A];clear A
  go_enter func46,ntmps46
  go_wp2;go_ret;exact⟨rfl,rfl⟩
 have E:decide ((200:Int)<(n:Int))=false:=by simp;omega
 have K:n<=200:=by omega
 have A:isWord n x=y5n n x 500:=by unfold isWord;rw[show decide (n<=200)=true by simp;omega];simp
 rw[A];clear A P
 go_enter func46,ntmps46
 go_wp2_with fail
 go_loop [3] (fun i=>∃ q:Nat,q<=n/\i=.int .i64 (q:Int)/\∀ j,j<q->1<=x j/\x j<=500) (fun i=>n-(intOf i).toNat)
 case atStart=>exact⟨0,Nat.zero_le _,rfl,fun j G=>by omega⟩
 obtain⟨q,X,rfl,s⟩:=hrel;have z:=qh s;clear s;by_cases o:q<n
 ·have N:(q:Int)<(n:Int):=by omega
  have C:(0:Int)<=(q:Int):=by omega
  obtain rfl:=I.out (by omega);have c0:=H.out q o;obtain⟨p,l⟩:=exq (x q);rw[<- l] at c0;have m:=qh l;clear l;by_cases W:p<1
  ·have c:y5n n x 500=false:=x0j.2 fun h=>by have:=(h q o).1;rw[<- m.out] at this;omega
   have k:=qh c;clear c;go_wp2;go_ret;exact⟨z0w k.out.symm,rfl⟩
  have R:decide (p<1)=false:=by simp;omega
  by_cases T:(500:Int)<p
  ·have c:y5n n x 500=false:=x0j.2 fun h=>by have:=(h q o).2;rw[<- m.out] at this;omega
   have k:=qh c;clear c;go_wp2;go_ret;exact⟨z0w k.out.symm,rfl⟩
  have J:decide ((500:Int)<p)=false:=by simp;omega
  go_wp2
  go_round
  case rel=>exact⟨q+1,by omega,by go_num,fun j G=>by
   by_cases e:j=q
   ·subst e;rw[<- m.out];omega
   exact z.out j (by omega)⟩
  simp[intOf];omega
 have u:q=n:=by omega
 have L:¬ ((q:Int)<(n:Int)):=by omega
 have g:y5n n x 500=true:=y3y.2 fun i hi=>z.out i (by rw[u];exact hi);have F:=qh g;clear g u;go_wp2;go_ret;exact⟨z0w F.out.symm,rfl⟩
end
section
open Go.RowKit Go.Deep
def Wg8G (D:MD) (na:Nat) (x:Nat->Int) (nb:Nat) (y:Nat->Int) (w:World) (r:Ending) (w':World):Prop :=
 Below w.heap.size w w'/\((VM D/\isWord na x=true/\isWord nb y=true/\∃ st e z,Sil8 D silB st e/\z=(if e≠0 then (⟨#[]⟩,e) else v3y D st na x nb y)/\r=.returned (.tuple #[.string z.1,.int .i64 (z.2:Int)]))\/(¬ (VM D/\isWord na x=true/\isWord nb y=true)/\r=.returned (.tuple #[.string ⟨#[]⟩,.int .i64 1])))
end
section
open Go.RowKit Go.Deep
def Wv (D:MD) (na:Nat) (x:Nat->Int) (nb:Nat) (y:Nat->Int) (z:ByteArray × Nat):Prop:=z.2=0->∀ k:KK,k.1=D.kind->Sv k z.1 (rel (rmOf k D) (ls x na 0) (ls y nb 0))
def WvE (D:MD) (na:Nat) (x:Nat->Int) (nb:Nat) (y:Nat->Int) (w:World) (r:Ending) (w':World):Prop :=
 Below w.heap.size w w'/\∃ z:ByteArray × Nat,r=.returned (.tuple #[.string z.1,.int .i64 (z.2:Int)])/\((VM D/\isWord na x=true/\isWord nb y=true/\Wv D na x nb y z)\/(¬ (VM D/\isWord na x=true/\isWord nb y=true)/\z=(⟨#[]⟩,1)))
theorem isWord.ne {n:Nat} {x:Nat->Int} (h:isWord n x=true):∀ i,i<n->x i≠0:=fun i hi=>by
 unfold isWord at h;rw[Bool.and_eq_true] at h;have c:=y3y.1 h.2 i hi;omega
theorem WgtX.v {D:MD} {na:Nat} {x:Nat->Int} {nb:Nat} {y:Nat->Int} {w:World} {r:Ending} {s:World} (h:WgtX D na x nb y w r s):WvE D na x nb y w r s:=by
 refine⟨h.1,?_⟩
 rcases h.2 with ⟨p,m,g,st,j,d,c⟩|⟨u,c⟩
 ·refine⟨_,c,.inl ⟨p,m,g,fun l k o=>?_⟩⟩;by_cases i:j=0
  ·subst i;exact(u1j p o (d.st o) (isWord.ne m) (isWord.ne g) l).2
  exact absurd (x4d (show (outG D st na x nb y (na+1) 0 _ j).2=0 from l)) i
 exact⟨(⟨#[]⟩,1),c,.inr ⟨u,rfl⟩⟩
theorem Wg8G.v {D:MD} {na:Nat} {x:Nat->Int} {nb:Nat} {y:Nat->Int} {w:World} {r:Ending} {s:World} (h:Wg8G D na x nb y w r s):WvE D na x nb y w r s:=by
 refine⟨h.1,?_⟩
 rcases h.2 with ⟨p,m,l,st,u,z,j,c,i⟩|⟨A,i⟩
 ·refine⟨z,i,.inl ⟨p,m,l,fun d k o=>?_⟩⟩;by_cases g:u=0
  ·subst g;rw[if_neg (by simp)] at c;rw[c] at d ⊢;exact v3p p o (j.st o) (isWord.ne m) (isWord.ne l) d
  rw[if_pos g] at c;rw[c] at d;exact absurd d g
 exact⟨(⟨#[]⟩,1),i,.inr ⟨A,rfl⟩⟩
theorem Wv.eq {D i:MD} {na:Nat} {x:Nat->Int} {nb:Nat} {y:Nat->Int} {g:Nat} {o:Nat->Int} {d:Nat} {m:Nat->Int} {z j:ByteArray × Nat} (h:Wv D na x nb y z) (s:Wv i g o d m j) (B:VM D) (A:i.kind=D.kind)
  (E:∀ k:KK,k.1=D.kind->rel (rmOf k D) (ls x na 0) (ls y nb 0)=rel (rmOf k i) (ls o g 0) (ls m d 0)) (u:z.2=0) (l:j.2=0):z.1=j.1:=by
 obtain⟨k,c⟩:=B.kk;have p:=h u k c;have C:=s l k (c.trans A.symm);rw[E k c] at p;exact p.text C
theorem z6v {D:MD} {mv j i:Value} {na nb:Nat} {x y:Nat->Int} (w:World) (o:Ma none w mv D) (d:MSz D) (m:Tab w) (l:Si none w j na x) (k:Si none w i nb y) (g:(na:Int)<=9223372036854775807) (c:(nb:Int)<=9223372036854775807) :
  Calls prog 35 #[mv,j,i] w (WvE D na x nb y w):=(y4w w o d m l k g c).mono fun _ _ h=>h.v
end
section
open Go.RowKit Go.Deep
def Box4 (w:World) (b:Nat) (kd st:Int) (ld:ByteArray) (sv:Value):Prop:=w.heap[b]?=some (.cells #[.int .i64 kd,.int .i64 st,.string ld,sv] 24 (0,0))
theorem z0v (w:World) (b:Nat) (g i c d:Value) {m l j k:Value} {t:TypeId} (h:w.heap[b]?=some (.cells #[m,l,j,k] t (0,0))):(w.setCells b 0 [g,i,c,d]).heap[b]?=some (.cells #[g,i,c,d] t (0,0)):=by
 simp[World.setCells,World.setCell,Array.getElem?_modify,h]
theorem z0d {B b:Nat} {a w:World} (h:Below B a w) (hb:B<=b) (c g d i:Value):Below B a (w.setCells b 0 [c,g,d,i]) :=
 (((h.setCell (p:=⟨b,0,none⟩) hb c).setCell (p:=⟨b,0+1,none⟩) hb g).setCell (p:=⟨b,0+1+1,none⟩) hb d).setCell (p:=⟨b,0+1+1+1,none⟩) hb i
theorem u2c {w:World} {b:Nat} {c i d g:Value} {t:TypeId} (h:w.heap[b]?=some (.cells #[c,i,d,g] t (0,0))):w.there b 0 4:=by
 intro j k;have:j=0\/j=1\/j=2\/j=3:=by omega
 rcases this with rfl|rfl|rfl|rfl<;>simp[World.cell?,World.frozen?,h]
theorem Box4.range {w:World} {b:Nat} {g st:Int} {d:ByteArray} {sv:Value} (h:Box4 w b g st d sv):w.rangeAt b 0 [.int .i64 g,.int .i64 st,.string d,sv]:=by
 intro j v c;unfold Box4 at h;have i:j<4:=by have:=(List.getElem?_eq_some_iff.1 c).1;simpa using this
 have:j=0\/j=1\/j=2\/j=3:=by omega
 rcases this with rfl|rfl|rfl|rfl<;>(simp at c;subst c;simp[World.cell?,h])
theorem x0e {w:World} {b:Nat} {d st:Int} {c:ByteArray} {sv:Value} (h:Box4 w b d st c sv):(loadVar 24 ⟨b,0,none⟩).run prog w=.ok (.agg #[.int .i64 d,.int .i64 st,.string c,sv]) w :=
 run_loadVar_mid (P:=prog) w b 0 24 [.int .i64 d,.int .i64 st,.string c,sv] _ h.range underlying24 rfl (by kernel_rfl)
theorem x5z {fn:Func} {p:Tmp} (h:fn.results=#[.cell p 24]) (c:Array Value) {w:World} {b:Nat} {g st:Int} {d:ByteArray} {sv:Value} (i:c.getD p undef=.pointer (some ⟨b,0,none⟩)) (hb:Box4 w b g st d sv) :
  (results fn c).run prog w=.ok (.agg #[.int .i64 g,.int .i64 st,.string d,sv]) w:=by
 rw[z7w h,i];show ((loadVar 24 ⟨b,0,none⟩).run prog w)=_;exact x0e hb
theorem z0j {fn:Func} {p u:Tmp} (h:fn.results=#[.cell p 24,.tmp u]) (c:Array Value) {w:World} {b:Nat} {g st:Int} {d:ByteArray} {sv v:Value} (j:c.getD p undef=.pointer (some ⟨b,0,none⟩)) (i:c.getD u undef=v) (hb:Box4 w b g st d sv) :
  (results fn c).run prog w=.ok (.tuple #[.agg #[.int .i64 g,.int .i64 st,.string d,sv],v]) w:=by
 rw[results_cell_tmp h,j,i];show ((loadVar 24 ⟨b,0,none⟩).run prog w).andThen _=_;rw[x0e hb];rfl
end
section
open Go.RowKit Go.Deep
theorem y1y {P:Program} (w:World) (dT F D c:TypeId) (s n:Nat) (g k:Nat) (z:Option Addr) (o:Nat) (d:Array Value) (t:TypeId) (cs:List Value)
  (u:P.underlying dT=some (.slice c)) (B:(P.info? c).map (·.size)=some s) (J:w.heap[g]?=some (.cells d t (0,0))) (I:cs.length=n*s) (A:d.size=n*s)
  (l:0<n->∃ a,z=some a/\∀ j v,cs[j]?=some v->w.cell? (a.add j)=some v) (G:∀ v ∈ cs,v.oneCell'=true) :
  (Builtin.copy_ #[dT,F] D #[.slice (some ⟨g,0,none⟩) n k,.slice z n o]).run P w=.ok (goInt n) (w.setRow g cs.toArray):=by
 have h:=run_storeCells_at P g 0 t cs 0 d w J (by omega) G;have H:(d.toList.take (0+0)++cs++d.toList.drop (0+0+cs.length)).toArray=cs.toArray:=by
  rw[List.drop_eq_nil_of_le (by simp;omega)];simp
 rw[H] at h;cases m:P.info? c with
 | none=>simp[m] at B
 | some i =>
  have hi:i.size=s:=by simpa [m] using B
  by_cases C:n=0
  ·subst C;obtain rfl:cs=[]:=List.eq_nil_of_length_eq_zero (by omega);have p:∀ (x:Addr),(loadCells x 0).run P w=.ok #[] w:=fun x=>by simpa using run_loadCells_list (P:=P) w x [] (by simp)
   cases z with
   | none=>simp[Builtin.copy_,run_underlying u,Builtin.lenOf,Builtin.firstCells,sizeOf,typeInfo,m,h]
   | some a=>simp[Builtin.copy_,run_underlying u,Builtin.lenOf,Builtin.firstCells,sizeOf,typeInfo,m,p,h]
  obtain⟨a,rfl,E⟩:=l (by omega);have p:=run_loadCells_list (P:=P) w a cs E;rw[I] at p;simp[Builtin.copy_,run_underlying u,Builtin.lenOf,Builtin.firstCells,sizeOf,typeInfo,m,hi,p,h]
theorem z6u {P:Program} (t e:TypeId) (z:Value) (s c:Nat) (p:P.underlying t=some (.slice e)) (d:(P.info? e).map (fun i=>(i.zero,i.size,i.bytes))=some (some z,s,c))
  (l kc:IntKind) (n:Nat) (j:c*n<=281474976710656) (u:n<=9223372036854775807) (w:World) :
  (Instr.makeSlice t (.int l (n:Int)) (.int kc (n:Int))).run P w=.ok (.slice (some ⟨w.heap.size,0,none⟩) n n) (w.alloc (.cells (madeCells z.cells (n*s)) e)):=by
 obtain⟨i,hi,g⟩:=Option.map_eq_some_iff.1 d;simp only[Prod.mk.injEq] at g;obtain⟨o,A,hb⟩:=g;have k:(i.bytes:Int)*(n:Int)<=281474976710656:=by
  have h:((i.bytes*n:Nat):Int)<=281474976710656:=by rw[hb];omega
  rwa [Int.natCast_mul] at h
 have m:=run_make (P:=P) w t e i z p hi o l kc n n (by omega) (Int.le_refl _) k (by omega);simp only[Int.toNat_natCast,A] at m;exact m
theorem v5q (z:Array Value) (g:0<z.size) (n:Nat):(madeCells z (n*z.size)).toList=cat (fun _=>z.toList) n:=by
 refine List.ext_getElem? fun i=>?_;by_cases h:i<n*z.size
 ·have j:i % z.size<z.size:=Nat.mod_lt _ g;have m:i / z.size<n:=(Nat.div_lt_iff_lt_mul g).2 h;have l:i / z.size*z.size+i % z.size=i:=by rw[Nat.mul_comm];exact Nat.div_add_mod i z.size
  have d:=z5n (c:=fun _=>z.toList) (s:=z.size) (fun _=>by simp) j m;rw[l] at d;rw[d];have k:i<(madeCells z (n*z.size)).toList.length:=by simp[size_madeCells];exact h
  rw[List.getElem?_eq_getElem k];simp[madeCells,j]
 rw[List.getElem?_eq_none (by simp[size_madeCells];omega),List.getElem?_eq_none (by rw[z4n (s:=z.size) (fun _=>by simp)];omega)]
def z7m:Value:=.agg #[.int .i64 0,.int .i64 0,.string ⟨#[]⟩,.slice none 0 0]
theorem cells4 {w:World} {rb:Nat} {d v1 g c:Value} {t:TypeId} (h:w.heap[rb]?=some (.cells #[d,v1,g,c] t (0,0))):(w.cell? ⟨rb,0,none⟩=some d/\w.cell? ⟨rb,1,none⟩=some v1/\w.cell? ⟨rb,2,none⟩=some g/\w.cell? ⟨rb,3,none⟩=some c)/\∀ j,w.frozen? ⟨rb,j,none⟩=false :=
 ⟨⟨by simp[World.cell?,h],by simp[World.cell?,h],by simp[World.cell?,h],by simp[World.cell?,h]⟩,fun j=>by simp[World.frozen?,h]⟩
theorem x7t:(prog.info? 57).map (fun i=>(i.zero,i.size,i.bytes))=some (some (.agg #[.string ⟨#[]⟩,.slice none 0 0]),2,40):=by kernel_rfl
theorem v1v:(prog.info? 59).map (fun i=>(i.zero,i.size,i.bytes))=some (some (.agg #[.int .i64 0,.int .i64 0,.string ⟨#[]⟩,.int .i64 0]),4,40):=by kernel_rfl
def MkE (V:Prop) (D:MD) (e:Nat) (w:World) (r:Ending) (w':World):Prop :=
 Below w.heap.size w w'/\((V/\∃ sv R,r=.returned (.tuple #[.agg #[.int .i64 D.kind,.int .i64 D.start,.string D.lead,sv],.int .i64 0])/\OwM w' w.heap.size sv D R)\/(¬ V/\r=.returned (.tuple #[z7m,.int .i64 (e:Int)])))
end
section
open Go.RowKit Go.Deep
theorem z9g {o:Option TypeInfo} {z:Value} {s b:Nat} (h:o.map (fun i=>(i.zero,i.size,i.bytes))=some (some z,s,b)):∃ i,o=some i/\i.zero=some z/\i.size=s/\i.bytes=b:=by
 cases o with
 | none=>cases h
 | some i=>simp at h;exact⟨i,rfl,h.1,h.2.1,h.2.2⟩
def RowB (w:World) (q:Nat):Prop:=∃ cs t fr,w.heap[q]?=some (.cells cs t fr)/\(t=57\/t=59)
structure Kt (db:Nat) (w w':World):Prop where
 os:w'.os=w.os
 tape:w'.tape=w.tape
 output:w'.output=w.output
 size:w.heap.size<=w'.heap.size
 block:∀ q,q<w.heap.size->q≠db->¬ RowB w q->w'.heap[q]?=w.heap[q]?
theorem Kt.refl (db:Nat) (w:World):Kt db w w:=⟨rfl,rfl,rfl,nlr,fun _ _ _ _=>rfl⟩
theorem Kt.trans {db:Nat} {w j g:World} (h:Kt db w j) (k:Kt db j g):Kt db w g :=
 ⟨k.os.trans h.os,k.tape.trans h.tape,k.output.trans h.output,Nat.le_trans h.size k.size,fun q i d c=>(k.block q (by have:=h.size;omega) d (fun ⟨m,t,fr,l,o⟩=>c ⟨m,t,fr,by rw[<- h.block q i d c];exact l,o⟩)).trans (h.block q i d c)⟩
theorem Kt.of_fr {db:Nat} {w c:World} (h:Fr (fun q=>q=db) w c):Kt db w c:=⟨h.os,h.tape,h.output,h.size,fun q d g _=>h.block q d g⟩
theorem Kt.of_own {db B:Nat} {w j:World} {e:TypeId} {s n:Nat} {v:Value} {xs:List Value} (h:w.ownsRow B e s v n xs) (m:e=57\/e=59) (c:w.grownBy j v.ownBlock):Kt db w j :=
 ⟨c.os,c.tape,c.output,c.size,fun q u _ o=>c.block q u (fun k=>by
  rcases h.2 with ⟨rfl,_⟩|⟨g,l,i,rfl,_,d,_⟩
  ·cases k
  have p:q=g:=by simpa [Value.ownBlock] using k
  subst p;exact o ⟨i,e,_,d,m⟩)⟩
theorem z2p {w:World} {B:Nat} {e t:TypeId} {s n b:Nat} {v:Value} {xs:List Value} {cs:Array Value} {fr:Nat × Nat} (h:w.ownsRow B e s v n xs) (hb:w.heap[b]?=some (.cells cs t fr)) (i:t≠e):v.ownBlock≠some b:=by
 rcases h.2 with ⟨rfl,_⟩|⟨g,d,j,rfl,_,k,_⟩
 ·simp[Value.ownBlock]
 intro c;simp[Value.ownBlock] at c;subst c;rw[k] at hb;simp at hb;exact i hb.2.1.symm
def bcs (D:MD) (sv:Value) (one:ByteArray) (ac fl:Int):Array Value:=#[.int .i64 D.kind,.int .i64 D.start,.string D.lead,sv,.string one,.int .i64 ac,.int .i64 fl]
structure Bld (w:World) (B db:Nat) (D:MD) (R:Nat->Value) (sv:Value) (one:ByteArray) (ac fl:Int):Prop where
 blk:w.heap[db]?=some (.cells (bcs D sv one ac fl) 113 (0,0))
 own:OwM w B sv D R
 low:B<=db
theorem Bld.lt {w:World} {B db:Nat} {D:MD} {R:Nat->Value} {sv:Value} {one:ByteArray} {ac fl:Int} (h:Bld w B db D R sv one ac fl):db<w.heap.size:=(Array.getElem?_eq_some_iff.1 h.blk).1
section
variable {w:World} {db:Nat} {D:MD} {sv:Value} {one:ByteArray} {ac fl:Int} {t:TypeId} (h:w.heap[db]?=some (.cells (bcs D sv one ac fl) t (0,0)))
include h
theorem BlkB.c0:w.cell? ⟨db,0,none⟩=some (.int .i64 D.kind):=by unfold bcs at h;simp[World.cell?,h]
theorem BlkB.c1:w.cell? ⟨db,1,none⟩=some (.int .i64 D.start):=by unfold bcs at h;simp[World.cell?,h]
theorem BlkB.c2:w.cell? ⟨db,2,none⟩=some (.string D.lead):=by unfold bcs at h;simp[World.cell?,h]
theorem BlkB.c3:w.cell? ⟨db,3,none⟩=some sv:=by unfold bcs at h;simp[World.cell?,h]
theorem BlkB.c4:w.cell? ⟨db,4,none⟩=some (.string one):=by unfold bcs at h;simp[World.cell?,h]
theorem BlkB.c5:w.cell? ⟨db,5,none⟩=some (.int .i64 ac):=by unfold bcs at h;simp[World.cell?,h]
theorem BlkB.c6:w.cell? ⟨db,6,none⟩=some (.int .i64 fl):=by unfold bcs at h;simp[World.cell?,h]
theorem BlkB.fz (j:Nat):w.frozen? ⟨db,j,none⟩=false:=by simp[World.frozen?,h]
theorem BlkB.set3 (v:Value):(w.setCell ⟨db,3,none⟩ v).heap[db]?=some (.cells (bcs D v one ac fl) t (0,0)):=by
 unfold bcs at h ⊢;simp[World.setCell,Array.getElem?_modify,h]
theorem BlkB.set5 (a:Int):(w.setCell ⟨db,5,none⟩ (.int .i64 a)).heap[db]?=some (.cells (bcs D sv one a fl) t (0,0)):=by
 unfold bcs at h ⊢;simp[World.setCell,Array.getElem?_modify,h]
theorem BlkB.set6 (a:Int):(w.setCell ⟨db,6,none⟩ (.int .i64 a)).heap[db]?=some (.cells (bcs D sv one ac a) t (0,0)):=by
 unfold bcs at h ⊢;simp[World.setCell,Array.getElem?_modify,h]
end
def Fre (w:World) (sv:Value) (R:Nat->Value) (n b:Nat):Prop:=b<w.heap.size/\sv.ownBlock≠some b/\∀ i,i<n->(R i).ownBlock≠some b
def FrK (db:Nat) (w:World) (sv:Value) (R:Nat->Value) (n:Nat) (w':World) (sv':Value) (R':Nat->Value) (n':Nat):Prop:=∀ b,b≠db->Fre w sv R n b->Fre w' sv' R' n' b/\w'.heap[b]?=w.heap[b]?
def BlE (B db:Nat) (n:Nat) (R:Nat->Value) (sv:Value) (D':MD) (one:ByteArray) (ac' fl:Int) (w w':World):Prop:=(∃ R' sv',Bld w' B db D' R' sv' one ac' fl/\FrK db w sv R n w' sv' R' D'.n)/\Below B w w'
theorem y7x {w:World} {b:Nat} {cs:Array Value} {t:TypeId} {fr:Nat × Nat} (h:w.heap[b]?=some (.cells cs t fr)):∀ j u,cs.toList[j]?=some u->w.cell? ((⟨b,0,none⟩:Addr).add j)=some u:=by
 intro j u c;rw[Addr.add_lit,Nat.zero_add];simp[World.cell?,h]
 simpa using c
theorem u0z {f:ByteArray}:∀ u ∈ [Value.string f,Value.slice none 0 0],u.oneCell'=true:=by intro u c;simp at c;rcases c with rfl|rfl<;>rfl
theorem x6u {B db:Nat} {D:MD} {R:Nat->Value} {sv:Value} (f:ByteArray) (w:World) {one:ByteArray} {ac fl:Int} (h:Bld w B db D R sv one ac fl) (hB:B<=w.heap.size) (hn:D.n<=100000) :
  Calls prog 91 #[.pointer (some ⟨db,0,none⟩),.string f] w (fun r w'=>r=.returned (.int .i64 (D.n:Int))/\BlE B db D.n R sv (D.state f) one ac fl w w'):=by
 obtain⟨i0,hi,X,S,a1⟩:=z9g x7t;obtain⟨u,g⟩:=exq (w.alloc (.cells #[.string f,.slice none 0 0] 57));obtain⟨H,hH⟩:=exq (w.heap.size);have U:w.grownBy u none:=by rw[g];exact World.grownBy_alloc _ _ _
 have o:u.ownsRow B 57 2 sv D.n (cat (st2 D R) D.n):=by rw[g];exact World.ownsRow.alloc h.own.top _
 have Q:u.heap[H]?=some (.cells #[.string f,.slice none 0 0] 57 (0,0)):=by rw[g,hH];exact heap_alloc_new w _
 have l:u.heap[db]?=some (.cells (bcs D (sv) one ac fl) 113 (0,0)):=by rw[g,blk_alloc_lt _ _ _ h.lt];exact h.blk
 have c4:u.cell? ⟨db,3,none⟩=some sv:=BlkB.c3 l;have b3:w.cell? ⟨db,3,none⟩=some sv:=BlkB.c3 h.blk;have b8:u.heap.size=H+1:=by rw[g,hH];simp
 obtain⟨sa,sc,a8,_,_⟩:=z0y h.own.top;subst a8;have z:∀ A,(w.alloc (.cells #[.string f,.slice none 0 0] 57)).grownBy A (Value.slice sa D.n sc).ownBlock->A.heap[db]?=some (.cells (bcs D (.slice sa D.n sc) one ac fl) 113 (0,0)):=fun A hg=>by
  rw[<- g] at hg;exact(hg.block db (lt_of_block l) (fun e=>z2p o l (by decide) e.symm)).trans l
 have Y:=qh z;clear z;have K:=qh h;clear h;have b2:=qh o;clear o;have b9:=qh Q;clear Q;have b6:=qh l;clear l;have b5:=qh U;clear U;have HI:=qh hi;have a3:=qh X;have a4:=qh S;have b0:=qh a1;clear hi X S a1;have b7:=qh hH;clear hH;have b4:=qh g
 go_enter func91,ntmps91
 go_wp2_with (at_builtin;refine wpList_append_lies _ rfl (.tmp 10) (.tmp 13) 22 rfl B 57 i0 (.agg #[.string ⟨#[]⟩,.slice none 0 0]) 2 40 underlying22 HI.out a3.out a4.out b0.out rfl (by omega) (.slice sa D.n sc) D.n _ (by first|rfl|simp[Act.eval,Act.put]) (World.ownsRow.alloc K.out.own.top _) ⟨w.heap.size,0,none⟩ 1 1 [.string f,.slice none 0 0] (by first|rfl|simp[Act.eval,Act.put]) rfl (y7x (cs:=#[.string f,.slice none 0 0]) (heap_alloc_new w _)) u0z (by omega) (by unfold maxLen;omega) (by omega) (by simp;omega) _ rfl ?_;intro F J A s c T a7;have m:=Y.out A c;have e4:=BlkB.c3 m;have f4:=BlkB.fz m 3)
 have j:A.ownsRow B 57 2 (.slice (some ⟨F,0,none⟩) (D.n+1) J) (D.n+1) (cat (st2 D R) D.n++[.string f,.slice none 0 0]):=s;have I:=K.out.own.state j c;have L:(Value.slice (some ⟨F,0,none⟩) (D.n+1) J).ownBlock≠some db:=z2p j m (by decide);have P:∀ i,i<(D.state f).n->((fun i=>if i=D.n then Value.slice none 0 0 else R i) i).ownBlock≠some db:=fun i hi=>z2p (I.row i hi) m (by decide)
 obtain⟨E,d⟩:=exq (A.setCell ⟨db,3,none⟩ (.slice (some ⟨F,0,none⟩) (D.n+1) J));have C:OwM E B (.slice (some ⟨F,0,none⟩) (D.n+1) J) (D.state f) (fun i=>if i=D.n then .slice none 0 0 else R i):=by rw[d];exact I.other (p:=⟨db,3,none⟩) L P _
 have G:E.heap[db]?=some (.cells (bcs D (.slice (some ⟨F,0,none⟩) (D.n+1) J) one ac fl) 113 (0,0)):=by rw[d];exact BlkB.set3 m _
 have W:Kt db w E:=by
  have h1:Kt db w (w.alloc (.cells #[.string f,.slice none 0 0] 57)):=Kt.of_fr (Fr.alloc _ _);have h2:=Kt.of_own (db:=db) (World.ownsRow.alloc K.out.own.top (.cells #[.string f,.slice none 0 0] 57)) (.inl rfl) c;rw[d];exact(h1.trans h2).trans (Kt.of_fr ((Fr.refl (fun q=>q=db) A).set (p:=⟨db,3,none⟩) (.inl rfl) _))
 have Z:FrK db w (.slice sa D.n sc) R D.n E (.slice (some ⟨F,0,none⟩) (D.n+1) J) (fun i=>if i=D.n then .slice none 0 0 else R i) (D.n+1):=by
  intro b hb hf;have N:b<(w.alloc (.cells #[.string f,.slice none 0 0] 57)).heap.size:=by have:=hf.1;simp;omega
  refine⟨⟨by rw[d,nblk_setCell];exact Nat.lt_of_lt_of_le N c.size,?_,fun i hi=>?_⟩,?_⟩
  ·intro e;have e2:F=b:=by simpa [Value.ownBlock] using e
   subst e2
   rcases T with h1|h1
   ·exact hf.2.1 h1
   omega
  ·dsimp only
   split
   ·simp[Value.ownBlock]
   exact hf.2.2 i (by omega)
  rw[d,z0e hb];exact(c.block b N (fun e=>hf.2.1 e.symm)).trans (blk_alloc_lt _ _ _ hf.1)
 have a2:=qh Z;clear Z;have O:Below B w E:=by
  rw[d];exact((((Below.refl B w).alloc hB (.cells #[.string f,.slice none 0 0] 57)).grown c (by simp;omega) (fun k hk=>(World.ownsRow.lt (World.ownsRow.alloc K.out.own.top (.cells #[.string f,.slice none 0 0] 57)) k hk).1)).setCell (p:=⟨db,3,none⟩) K.out.low _)
 have b1:=qh C;clear C I;have c8:=qh W;clear W;have a6:=qh O;clear O j s c T a7 L P;have c3:=BlkB.c3 G;have a5:=qh G;clear G m;rw[<- d];have c7:=qh d;clear d e4 f4;have a9:((D.n+1:Nat):Int)-1=(D.n:Int):=by omega
 go_wp2;go_ret;exact⟨by first|rfl|(rw[a9])|(go_num),⟨_,_,⟨a5.out,b1.out,K.out.low⟩,a2.out⟩,a6.out⟩
theorem y7i {a b t:Int} {x:ByteArray}:∀ u ∈ [Value.int .i64 a,Value.int .i64 b,Value.string x,Value.int .i64 t],u.oneCell'=true:=by intro u c;simp at c;rcases c with rfl|rfl|rfl|rfl<;>rfl
theorem v5c {B db q:Nat} {D:MD} {R:Nat->Value} {sv:Value} (a b t:Int) (x:ByteArray) (w:World) {one:ByteArray} {ac fl:Int} (h:Bld w B db D R sv one ac fl) (f7:0<=ac) (g5:ac<=100000) (hB:B<=w.heap.size) (hq:q<D.n) (hn:D.n<=100000) (g0:D.na q<=100000) :
  Calls prog 92 #[.pointer (some ⟨db,0,none⟩),.int .i64 (q:Int),.agg #[.int .i64 a,.int .i64 b,.string x,.int .i64 t]] w (fun r w'=>r=.returned (.tuple #[])/\BlE B db D.n R sv (D.arc q a b x t) one (ac+1) fl w w'):=by
 obtain⟨i0,hi,d2,c8,d6⟩:=z9g v1v;have g4:(q:Int)<(D.n:Int):=by omega
 have f3:(0:Int)<=(q:Int):=by omega
 obtain⟨g,T,rfl,_,_,_,_⟩:=z7z h.own.top (by omega);obtain⟨ra,rc,b0,_,_⟩:=z0y (h.own.row q hq);obtain⟨w1,A⟩:=exq (w.alloc (.cells #[.int .i64 a,.int .i64 b,.string x,.int .i64 t] 59));obtain⟨l,m⟩:∃ l,l=(w1.setCell ⟨db,5,none⟩ (.int .i64 (ac+1))).drew:=⟨_,rfl⟩;obtain⟨H,hH⟩:=exq (w.heap.size);have a8:l.heap.size=H+1:=by
  rw[m];show (w1.setCell ⟨db,5,none⟩ (.int .i64 (ac+1))).heap.size=_;rw[nblk_setCell,A,hH];simp
 have u:w1.heap[db]?=some (.cells (bcs D (.slice (some ⟨g,0,none⟩) D.n T) one ac fl) 113 (0,0)):=by rw[A,blk_alloc_lt _ _ _ h.lt];exact h.blk
 have c5:=BlkB.c5 u;have f5:=BlkB.fz u 5;rw[A] at c5 f5;have d7:Fr (fun q=>q=db) w w1:=by rw[A];exact Fr.alloc _ _
 have d4:Fr (fun q=>q=db) w l:=by rw[m];exact(d7.set (p:=⟨db,5,none⟩) (.inl rfl) _).drew
 have N:l.heap[H]?=some (.cells #[.int .i64 a,.int .i64 b,.string x,.int .i64 t] 59 (0,0)):=by
  rw[m];show (w1.setCell ⟨db,5,none⟩ (.int .i64 (ac+1))).heap[H]?=_;rw[z0e (show H≠db by have:=h.lt;omega),A,hH];exact heap_alloc_new w _
 have a3:l.heap[db]?=some (.cells (bcs D (.slice (some ⟨g,0,none⟩) D.n T) one (ac+1) fl) 113 (0,0)):=by rw[m];exact BlkB.set5 u _
 have J:OwM w1 B (.slice (some ⟨g,0,none⟩) D.n T) D R:=h.own.kept (z:=none) (by rw[A];exact World.grownBy_alloc _ _ _) (by simp);have L:=J.other (p:=⟨db,5,none⟩) (z2p J.top u (by decide)) (fun i hi=>z2p (J.row i hi) u (by decide)) (.int .i64 (ac+1));have a1:OwM l B (.slice (some ⟨g,0,none⟩) D.n T) D R:=by rw[m];exact⟨L.top,L.row,L.apart⟩
 clear J L d7 u;have j:l.cell? ⟨db,3,none⟩=some (.slice (some ⟨g,0,none⟩) D.n T)/\l.cell? ⟨g,q*2+1,none⟩=some (.slice ra (D.na q) rc)/\l.cell? ⟨H,0,none⟩=some (.int .i64 a)/\l.cell? ⟨H,1,none⟩=some (.int .i64 b)/\l.cell? ⟨H,2,none⟩=some (.string x)/\l.cell? ⟨H,3,none⟩=some (.int .i64 t) :=
  ⟨BlkB.c3 a3,by rw[a1.arcs_cell hq,b0],by simp[World.cell?,N],by simp[World.cell?,N],by simp[World.cell?,N],by simp[World.cell?,N]⟩
 have a6:∀ i,i<D.n->(R i).ownBlock≠some db:=fun i hi=>z2p (a1.row i hi) a3 (by decide);have a7:(R q).ownBlock≠some g:=fun e=>a1.tne hq e rfl;have HI:=qh hi;have d9:=qh d2;have e0:=qh c8;have f0:=qh d6;clear hi d2 c8 d6;have HH:=qh h;clear h;have O:=qh a1;clear a1;have b1:=qh a3;clear a3;have g3:=qh N;clear N;have a4:=qh d4;clear d4;have a2:=qh b0;clear b0;have c7:=qh a6;clear a6;have Y:=qh a7;clear a7
 go_enter func92,ntmps92
 go_wp2_with fail
 refine z0g (fun Q=>Q.cell? ⟨db,3,none⟩=some (.slice (some ⟨g,0,none⟩) D.n T)/\Q.cell? ⟨g,q*2+1,none⟩=some (.slice ra (D.na q) rc)/\Q.cell? ⟨H,0,none⟩=some (.int .i64 a)/\Q.cell? ⟨H,1,none⟩=some (.int .i64 b)/\Q.cell? ⟨H,2,none⟩=some (.string x)/\Q.cell? ⟨H,3,none⟩=some (.int .i64 t)) 20 (by kernel_rfl) ?_;rw[<- A,<- m,<- hH];clear c5 f5;have f8:=qh A;clear A;have f4:=qh m;clear m;have b3:=qh hH;clear hH;refine z0c.tm 0 j ?_;refine z0c.tm 1 j ?_;refine z0c.tm 2 j ?_;refine z0c.tm 3 j ?_;refine z0c.tm 4 j ?_;refine z0c.tm 5 j ?_;refine z0c.tm 6 j ?_;refine z0c.tm 7 j ?_;refine z0c.tm 8 j ?_;refine z0c.tm 9 j ?_;refine z0c.tm 10 j ?_;refine z0c.tm 11 j ?_;refine z0c.tm 12 j ?_;refine z0c.tm 13 j ?_;refine z0c.tm 14 j ?_;refine z0c.tm 15 j ?_
 try simp only[Act.put,tryL]
 refine z0c.on 16 fun K hK=>?_;go_simp;obtain⟨F,G⟩:=exq (l.alloc (.cells #[.int .i64 a,.int .i64 b,.string x,.int .i64 t] 59));have s:l.grownBy F none:=by rw[G];exact World.grownBy_alloc _ _ _
 have b8:F.heap[H+1]?=some (.cells #[.int .i64 a,.int .i64 b,.string x,.int .i64 t] 59 (0,0)):=by rw[G,<- a8];exact heap_alloc_new l _
 have g1:F.heap.size=H+1+1:=by rw[G];simp[a8]
 have S:F.cell? ⟨db,3,none⟩=some (.slice (some ⟨g,0,none⟩) D.n T)/\F.cell? ⟨g,q*2+1,none⟩=some (.slice ra (D.na q) rc)/\F.cell? ⟨H,0,none⟩=some (.int .i64 a)/\F.cell? ⟨H,1,none⟩=some (.int .i64 b)/\F.cell? ⟨H,2,none⟩=some (.string x)/\F.cell? ⟨H,3,none⟩=some (.int .i64 t) :=
  ⟨s.cell j.1 (by simp),s.cell j.2.1 (by simp),s.cell j.2.2.1 (by simp),s.cell j.2.2.2.1 (by simp),s.cell j.2.2.2.2.1 (by simp),s.cell j.2.2.2.2.2 (by simp)⟩
 have I:F.ownsRow B 59 4 (.slice ra (D.na q) rc) (D.na q) (cat (arc4 D q) (D.na q)):=by rw[G,<- a2.out];exact World.ownsRow.alloc (O.out.row q hq) _
 have b6:B<=F.heap.size:=by have:=b3.out;omega
 rw[<- G];have X:=qh G;clear G;have e7:=qh b8;clear b8;refine hK.out _ _ (.inr S) ?_;clear hK K
 try simp only[Act.put,tryL]
 refine z0c.on 17 fun K hK=>?_;refine wp_append_lies _ (.tmp 27) (.tmp 29) 55 rfl B 59 i0 (.agg #[.int .i64 0,.int .i64 0,.string ⟨#[]⟩,.int .i64 0]) 4 40 underlying55 HI.out d9.out e0.out f0.out rfl (by omega) (.slice ra (D.na q) rc) (D.na q) _ (by simp[Act.eval]) I ⟨H+1,0,none⟩ 1 1 [.int .i64 a,.int .i64 b,.string x,.int .i64 t] (by simp[Act.eval]) rfl (y7x (cs:=#[.int .i64 a,.int .i64 b,.string x,.int .i64 t]) e7.out) y7i (by omega) (by unfold maxLen;omega) (by omega) b6 _ rfl ?_;intro go cq E Z C b2 e6;have d:F.grownBy E (R q).ownBlock:=by rw[a2.out];exact C
 have W:E.heap[db]?=some (.cells (bcs D (.slice (some ⟨g,0,none⟩) D.n T) one (ac+1) fl) 113 (0,0)) :=
  (d.block db (by have:=lt_of_block b1.out;have:=s.size;omega) (fun e=>c7.out q hq e.symm)).trans ((s.block db (lt_of_block b1.out) (by simp)).trans b1.out)
 have f9:g<l.heap.size:=(World.ownsRow.lt O.out.top g rfl).2;have e4:E.cell? ⟨g,q*2+1,none⟩=some (.slice ra (D.na q) rc):=d.cell S.2.1 (fun e=>Y.out e.symm);have b9:∀ c,(Value.slice (some ⟨go,0,none⟩) (D.na q+1) cq).ownBlock=some c->(R q).ownBlock=some c\/l.heap.size<=c:=fun c hc=>by
  have e:go=c:=by simpa [Value.ownBlock] using hc
  subst e
  rcases b2 with U|U
  ·exact .inl (by rw[a2.out];exact U)
  right;omega
 have a5:=O.out.arc (a:=a) (b:=b) (x:=x) (t:=t) (v':=.slice (some ⟨go,0,none⟩) (D.na q+1) cq) hq Z (o:=.cells #[.int .i64 a,.int .i64 b,.string x,.int .i64 t] 59) (by rw[<- X.out];exact d) b9;have g2:E.frozen? ⟨g,q*2+1,none⟩=false:=by
  have U:E.ownsRow B 57 2 (.slice (some ⟨g,0,none⟩) D.n T) D.n (cat (st2 D R) D.n):=z2q (by rw[X.out];exact World.ownsRow.alloc O.out.top _) d (fun c hc e=>by
   have e2:g=c:=by simpa [Value.ownBlock] using hc
   subst e2;exact Y.out e)
  exact z5z U _
 have b4:E.cell? ⟨db,3,none⟩=some (.slice (some ⟨g,0,none⟩) D.n T)/\E.cell? ⟨g,q*2+1,none⟩=some (.slice ra (D.na q) rc)/\E.cell? ⟨H,0,none⟩=some (.int .i64 a)/\E.cell? ⟨H,1,none⟩=some (.int .i64 b)/\E.cell? ⟨H,2,none⟩=some (.string x)/\E.cell? ⟨H,3,none⟩=some (.int .i64 t):=by
  have P:some H≠(R q).ownBlock:=fun e=>by have:=(World.ownsRow.lt (HH.out.own.row q hq) H e.symm).2;rw[<- b3.out] at this;omega
  exact⟨BlkB.c3 W,e4,d.cell S.2.2.1 P,d.cell S.2.2.2.1 P,d.cell S.2.2.2.2.1 P,d.cell S.2.2.2.2.2 P⟩
 have d5:FrK db w (.slice (some ⟨g,0,none⟩) D.n T) R D.n (E.setCell ⟨g,q*2+1,none⟩ (.slice (some ⟨go,0,none⟩) (D.na q+1) cq)) (.slice (some ⟨g,0,none⟩) D.n T) (fun i=>if i=q then .slice (some ⟨go,0,none⟩) (D.na q+1) cq else R i) D.n:=by
  intro b hb hf;have e1:b≠g:=fun e=>hf.2.1 (by rw[e];rfl);have b5:b<l.heap.size:=Nat.lt_of_lt_of_le hf.1 a4.out.size;have c9:b<F.heap.size:=Nat.lt_of_lt_of_le b5 s.size;refine⟨⟨by rw[nblk_setCell];exact Nat.lt_of_lt_of_le c9 d.size,hf.2.1,fun i hi=>?_⟩,?_⟩
  ·dsimp only
   split
   ·intro e;have e2:go=b:=by simpa [Value.ownBlock] using e
    subst e2
    rcases b2 with U|U
    ·exact hf.2.2 q hq (by rw[a2.out];exact U)
    omega
   exact hf.2.2 i hi
  rw[z0e e1];exact(d.block b c9 (fun e=>hf.2.2 q hq e.symm)).trans ((s.block b b5 (by simp)).trans (a4.out.block b hf.1 hb))
 have d8:=qh d5;clear d5;have d1:Kt db w E:=by
  have h2:=Kt.of_own (db:=db) (I) (.inr rfl) C;exact((Kt.of_fr a4.out).trans (Kt.of_fr (Fr.of_gb s (by simp)))).trans h2
 have b7:Below B w E:=((a4.out.below hB (fun q e=>by rw[e];exact HH.out.low)).trans (((Below.refl B l).alloc (by have:=b3.out;omega) _))).grown (by rw[<- X.out];exact C) (by rw[<- X.out];exact b6) (fun k hk=>(World.ownsRow.lt I k hk).1);have d0:=qh a5;clear a5;have a9:=qh W;clear W;have g6:=qh d1;clear d1;have e3:=qh b7;clear b7;have d3:∃ cs fr,E.heap[g]?=some (.cells cs 57 fr):=by
  have U:E.ownsRow B 57 2 (.slice (some ⟨g,0,none⟩) D.n T) D.n (cat (st2 D R) D.n):=z2q (by rw[X.out];exact World.ownsRow.alloc O.out.top _) d (fun c hc e=>by
   have e2:g=c:=by simpa [Value.ownBlock] using hc
   subst e2;exact Y.out e)
  rcases U.2 with ⟨hv,_⟩|⟨g',f2,e5,hv,_,f1,_⟩
  ·cases hv
  cases hv;exact⟨e5,_,f1⟩
 have e8:=qh d3;clear d3;clear Z C d b2 e6 b9 I s;refine hK.out _ _ (.inr b4) ?_;clear hK K
 try simp only[Act.put,tryL]
 refine z0c.tm 18 b4 ?_;refine z0c.tm 19 b4 ?_
 try simp only[Act.put,tryL]
 refine z0c.on 20 fun K hK=>?_;go_simp;refine hK.out _ _ (.inl rfl) (z0c.dn ?_);clear hK K
 go_wp2_with fail
 go_end0
 have e9:B<=g:=(World.ownsRow.lt O.out.top g rfl).1;refine⟨rfl,⟨_,_,⟨?_,d0.out,HH.out.low⟩,d8.out⟩,e3.out.setCell (p:=⟨g,q*2+1,none⟩) e9 _⟩;have P:db≠g:=fun e=>by
  obtain⟨cs,fr,U⟩:=e8.out;rw[<- e,a9.out] at U;simp at U
 rw[z0e (show db≠g from P)];exact a9.out
end
end Go.Proofs.YteappjogmnogcaaGreatDoor
