/- Parts of a proof: WgX W8F R8C R8A R7A R7S R8B RWd R8D WVal Box CpyS BlA. -/
import Derived.Test.YteappjogmnogcaaGreatDoorW10
import Derived.Test.YteappjogmnogcaaGreatDoorW09
import Derived.Test.YteappjogmnogcaaGreatDoorW08
import Derived.Test.YteappjogmnogcaaGreatDoorW06
import Derived.Deep.QuietTactic
import Derived.BigQuiet
import Derived.Deep.AppendLies
import Derived.Laws.IdiomCopy
import Derived.Lib.SlBuf
import Derived.Test.YteappjogmnogcaaGreatDoorW07
import Derived.Laws.ResultCell
import Derived.Laws.CopyOwn
namespace Go.Proofs.YteappjogmnogcaaGreatDoor
set_option maxRecDepth 100000
set_option linter.unusedSimpArgs false
set_option linter.unusedVariables false
set_option linter.unusedSectionVars false
set_option maxHeartbeats 16000000
open Go Tryz
section
open Go.RowKit Go.Deep
theorem y3b {D:MD} {mv xv yv:Value} {na nb:Nat} {x y:Nat->Int} (w:World) (hM:Ma none w mv D) (I6:MSz D) (ht:Tab w) (hx:Si none w xv na x) (hy:Si none w yv nb y) (L8:(na:Int)<=9223372036854775807) (J1:(nb:Int)<=9223372036854775807) :
  Calls prog 35 #[mv,xv,yv] w (WgtX D na x nb y w):=by
 obtain⟨sv,rfl,hS⟩:=hM;obtain⟨a,cap,b,N5,A,C,BB,O,i9,_⟩:=hS.open;obtain⟨ax,cx,rfl⟩:=hx.shape;obtain⟨ay,cy,rfl⟩:=hy.shape;subst i9;obtain⟨w1,s8⟩:=exq (w.alloc (.cells #[.int .i64 D.kind,.int .i64 D.start,.string D.lead,.slice a D.n cap] 24));obtain⟨w2,r4⟩:=exq (w1.alloc (.cells #[.slice ax na cx] 25));obtain⟨w3,r7⟩:=exq (w2.alloc (.cells #[.slice ay nb cy] 25));have H2:w1.heap.size=w.heap.size+1:=by rw[s8];simp
 have H7:w2.heap.size=w.heap.size+1+1:=by rw[r4];simp[H2]
 have M1:w3.heap.size=w.heap.size+1+1+1:=by rw[r7];simp[H7]
 have J2:Fr (fun _=>False) w w1:=by rw[s8];exact Fr.alloc _ _
 have d1:Fr (fun _=>False) w1 w2:=by rw[r4];exact Fr.alloc _ _
 have C5:Fr (fun _=>False) w2 w3:=by rw[r7];exact Fr.alloc _ _
 have D7:BoxM w1 w.heap.size D (.slice a D.n cap):=by rw[s8];exact BoxM.new w D _
 have m9:BoxM w3 w.heap.size D (.slice a D.n cap):=(((C5.block _ (by omega) (fun e=>e)).trans (d1.block _ (by omega) (fun e=>e))).trans D7);have E2:Bx w2 (w.heap.size+1) 25 (.slice ax na cx):=by rw[<- H2,r4];exact heap_alloc_new w1 _
 have I1:Bx w3 (w.heap.size+1) 25 (.slice ax na cx):=E2.kept C5 (fun e=>e);have H5:Bx w3 (w.heap.size+1+1) 25 (.slice ay nb cy):=by rw[<- H7,r7];exact heap_alloc_new w2 _
 have B7:Below w.heap.size w w3:=((J2.trans d1).trans C5).below nlr (fun _ e=>e.elim);obtain⟨mb,I4⟩:=exq (w.heap.size);obtain⟨xb,G3⟩:=exq (w.heap.size+1);obtain⟨yb,I8⟩:=exq (w.heap.size+1+1);rw[<- I4] at m9;rw[<- G3] at I1;rw[<- I8] at H5;have N8:w.heap.size<=mb:=by omega
 have m0:=m9.c0;have m1:=m9.c1;have m2:=m9.c2;have m3:=m9.c3;have K6:=qh (z2d w3 (⟨_,rfl,hS.kept (z0b B7 none)⟩:Ma none w3 (.agg #[.int .i64 D.kind,.int .i64 D.start,.string D.lead,.slice a D.n cap]) D) I6 (ht.below B7 nlr));clear J2 d1 C5 D7 E2 H2 H7 M1;have J0:=qh B7;clear B7;have G9:=qh m9;clear m9;have q8:=qh I1;clear I1;have A7:=qh H5;clear H5;have i7:=qh I6;clear I6;have i8:=qh ht;clear ht;have HX:=qh hx;clear hx;have HY:=qh hy;clear hy;have k1:=qh hS;clear hS
 go_enter func35,ntmps35
 go_wp2_with fail
 rw[<- s8,<- r4,<- r7,<- I8,<- G3,<- I4];clear s8 r4 r7 I4 G3 I8 m0 m1 m2 m3;refine K6.out.mono ?_;rintro r w4 ⟨y9,hr⟩;have F3:=J0.out.trans (y9.mono J0.out.size);have E3:BoxM w4 mb D (.slice a D.n cap):=(y9.block _ G9.out.lt).trans G9.out;have v5:Bx w4 xb 25 (.slice ax na cx):=(y9.block _ q8.out.lt).trans q8.out;have D6:Bx w4 yb 25 (.slice ay nb cy):=(y9.block _ A7.out.lt).trans A7.out;have c4:=v5.cell;have e6:=qh F3;clear F3 y9 J0 K6;have j2:=qh E3;clear E3 G9;have z3:=qh v5;clear v5 q8;have o5:=qh D6;clear D6 A7
 rcases hr with ⟨hv,rfl⟩|⟨hv,rfl⟩
 rotate_left
 ·have HV:=qh hv;clear hv;go_wp2;go_ret2;exact⟨e6.out,.inr ⟨fun h=>HV.out h.1,rfl⟩⟩
 have HV:=qh hv;clear hv;have K5:=qh (x4j w4 (HX.out.kept (z0b e6.out none)) L8)
 go_wp2_with fail
 refine K5.out.mono ?_;rintro r M3 ⟨rfl,rfl⟩;cases p9:isWord na x
 ·go_wp2;go_ret2;exact⟨e6.out,.inr ⟨fun h=>absurd h.2.1 (by rw[p9];simp),rfl⟩⟩
 have N1:na<=200:=by unfold isWord at p9;simp at p9;exact p9.1
 have G2:=qh p9;clear p9 K5 L8;have d4:=o5.out.cell;have J3:=qh (x4j M3 (HY.out.kept (z0b e6.out none)) J1)
 go_wp2_with fail
 refine J3.out.mono ?_;rintro r w5 ⟨rfl,rfl⟩;cases p7:isWord nb y
 ·go_wp2;go_ret2;exact⟨e6.out,.inr ⟨fun h=>absurd h.2.2 (by rw[p7];simp),rfl⟩⟩
 have N2:nb<=200:=by unfold isWord at p7;simp at p7;exact p7.1
 have I0:=qh p7;clear p7 J3 J1 c4;have m0:=j2.out.c0;have m1:=j2.out.c1;have m2:=j2.out.c2;have m3:=j2.out.c3;have L4:=qh (v0a w5 HV.out (k1.out.kept (z0b e6.out none)) i7.out.aw (i8.out.below e6.out nlr) u4k)
 go_wp2_with fail
 refine L4.out.mono ?_;rintro r w6 ⟨v7,o,e5,st,e0,rfl,L1,H3,F7,C7⟩;have A6:=qh C7;clear C7;have K3:=qh F7;clear F7;have L2:=qh H3;have j0:=qh (show w.heap.size<=w6.heap.size from Nat.le_trans e6.out.size v7.size);obtain⟨m,hm⟩:=exq (nb+1);have B6:=run_make_row' (P:=prog) 101 102 (.slice none 0 0) 24 underlying101 y9q rfl .i64 .i64 m (by omega) (by omega);have x3:((m:Nat):Int)=(nb:Int)+1:=by omega
 rw[x3] at B6;have HM:=qh hm;clear hm;have v2:=e6.out.trans (v7.mono e6.out.size);have E1:Bx w6 xb 25 (.slice ax na cx):=(v7.block _ z3.out.lt).trans z3.out;have F0:Bx w6 yb 25 (.slice ay nb cy):=(v7.block _ o5.out.lt).trans o5.out;obtain⟨w7,k9⟩:=exq (w6.alloc (.cells #[.pointer (some ⟨o,0,none⟩)] 98));obtain⟨c8,H6⟩:=exq (w6.heap.size);have f5:Fr (fun _=>False) w6 w7:=by rw[k9];exact Fr.alloc _ _
 have h8:Bx w7 c8 98 (.pointer (some ⟨o,0,none⟩)):=by rw[k9,H6];exact heap_alloc_new w6 _
 have K4:w.heap.size<=o:=Nat.le_trans e6.out.size L1;have c:WG w w6 w7 o c8 xb yb D (.slice a D.n cap) e5 (.slice ax na cx) (.slice ay nb cy) e0:=⟨v2.trans (f5.below v2.size (fun _ e=>e.elim)),⟨f5.os,f5.tape,f5.output,f5.size,fun q hq _=>f5.block q hq (fun e=>e)⟩,H3.kept f5 (fun e=>e),h8,E1.kept f5 (fun e=>e),F0.kept f5 (fun e=>e),K4,j0.out⟩;have d6:=c.ky.cell;obtain⟨w8,y0⟩:=exq (w7.alloc (.cells (madeCells #[.slice none 0 0] m) 102));have L7:w7.heap.size=w6.heap.size+1:=by rw[k9];simp
 obtain⟨g,hg⟩:=exq (w6.heap.size+1);have J4:Fr (fun _=>False) w7 w8:=by rw[y0];exact Fr.alloc _ _
 have m8:w8.rowIs g 102 m (fun _=>.slice none 0 0):=by rw[y0,hg,<- L7];exact World.rowIs_made w7 (.slice none 0 0) m 102
 have n3:=c.kept J4 (fun e=>e) (fun e=>e) (fun e=>e) (fun e=>e) (fun _ e=>e.elim);have k8:=n3.k8.cell;have J6:=qh (x5n w8 n3.sc HV.out.n1 (by have:=HV.out.n2;omega) HV.out.s0 HV.out.s1);have f0:=m8.frozen 0;have I9:w6.heap.size<=g:=by omega
 have r2:=qh n3;clear n3 c;have m5:=qh m8;clear m8;have L9:=qh f5;clear f5;have L6:g<w8.heap.size:=m5.out.lt;have M5:w6.heap.size<=w8.heap.size:=r2.out.gs.size;clear v2 E1 F0 z3 o5 j2 e6 v7 H3 L1 m0 m1 m2 m3 d4 L4 h8 J4 L7;rw[k9] at d6;rw[y0,k9] at k8
 go_wp2_with fail
 rw[<- hg,<- H6,<- k9,<- y0];clear d6 k8 k9 y0 H6 hg L9 B6 x3;refine J6.out.mono ?_;rintro r w9 ⟨rfl,y2,G4⟩;obtain⟨r0,Y⟩:=exq (w8.heap.size);rw[<- Y] at y2;rw[<- Y];have i3:=r2.out.kept G4 (fun e=>e) (fun e=>e) (fun e=>e) (fun e=>e) (fun _ e=>e.elim);have b7:=G4.row m5.out (fun e=>e);have M8:(0:Int)<(m:Int):=by have:=HM.out;omega
 have f0:=b7.frozen 0;have g0:=b7.cell (i:=0) (by have:=HM.out;omega);have K1:g≠r0:=by omega
 have J5:Fr (fun q=>q=g) w9 (w9.setCell ⟨g,0,none⟩ (.slice (some ⟨r0,0,none⟩) D.n D.n)):=(Fr.refl (fun q=>q=g) w9).set (p:=⟨g,0,none⟩) (.inl rfl) _;have A3:WG w w6 (w9.setCell ⟨g,0,none⟩ (.slice (some ⟨r0,0,none⟩) D.n D.n)) o c8 xb yb D (.slice a D.n cap) e5 (.slice ax na cx) (.slice ay nb cy) e0 :=
  i3.kept J5 (fun e=>z0h b7 i3.sc (by decide) e.symm) (fun e=>z0h b7 i3.k8 (by decide) e.symm) (fun e=>z0h b7 i3.kx (by decide) e.symm) (fun e=>z0h b7 i3.ky (by decide) e.symm) (fun q e=>by rw[e];exact I9)
 have y8:VR1 (w9.setCell ⟨g,0,none⟩ (.slice (some ⟨r0,0,none⟩) D.n D.n)) w6.heap.size g m D.n (fun j=>if j=0 then some r0 else none) (fun j=>if j=0 then some (z7y D) else none):=by
  refine⟨(b7.set 0 _).congr (fun j _=>?_),I9,fun j _=>?_,fun j r x hj H h2=>?_,fun j j' r hj O5 H h2=>?_,fun j x H q=>?_⟩
  ·by_cases e:j=0
   ·rw[if_pos e,if_pos e];rfl
   rw[if_neg e,if_neg e];rfl
  ·by_cases e:j=0
   ·rw[if_pos e,if_pos e];simp
   rw[if_neg e,if_neg e];simp
  ·by_cases e:j=0
   ·rw[if_pos e] at H h2;cases H;cases h2;exact⟨y2.setOther (a:=⟨g,0,none⟩) (fun e=>K1 e.symm) _,by omega⟩
   rw[if_neg e] at H;cases H
  ·by_cases e:j=0
   ·by_cases e':j'=0
    ·rw[e,e']
    rw[if_neg e'] at h2;cases h2
   rw[if_neg e] at H;cases H
  by_cases e:j=0
  ·rw[if_pos e] at H;cases H;unfold z7y;split
   ·exact i7.out.lead
   exact z8r 0
  rw[if_neg e] at H;cases H
 have l4:=qh A3;clear A3 J5;have l9:=qh y8;clear y8;clear J6 G4 y2 i3 b7 m5 r2 K1 Y L6 M5;obtain⟨p6,n9⟩:=exq (w9.setCell ⟨g,0,none⟩ (.slice (some ⟨r0,0,none⟩) D.n D.n));rw[<- n9] at l4 l9;obtain⟨B0,r8⟩:=exq (w9.heap.size);have C8:p6.heap.size=w9.heap.size:=by rw[n9,nblk_setCell]
 obtain⟨B1,o6⟩:=exq (p6.alloc (.cells #[.int .i64 0] 3));have z1:Fr (fun _=>False) p6 B1:=by rw[o6];exact Fr.alloc _ _
 have A0:Bx B1 B0 3 (.int .i64 ((0:Nat):Int)):=by rw[o6,r8,<- C8];exact heap_alloc_new p6 _
 have x5:=qh (l4.out.kept z1 (fun e=>e) (fun e=>e) (fun e=>e) (fun e=>e) (fun _ e=>e.elim));clear l4;have A2:=qh (l9.out.kept z1);clear l9 z1;have r5:=qh A0;clear A0
 go_wp2_with fail
 rw[<- n9,<- o6,<- r8];clear o6 r8 C8 n9 f0 g0 M8;have N7:m<=201:=by have:=HM.out;omega
 go_loopw [9,10] (fun v9 H1 wr=>∃ (i e g ib:Nat) (R:Nat->Option Nat) (S:Nat->Option VV),i<=na+1/\v9=.slice (some ⟨g,0,none⟩) m m/\H1=.pointer (some ⟨ib,0,none⟩)/\Bx wr ib 3 (.int .i64 (i:Int))/\VR1 wr w6.heap.size g m D.n R S /\
  WG w w6 wr o c8 xb yb D (.slice a D.n cap) e5 (.slice ax na cx) (.slice ay nb cy) e/\outG D st na x nb y (na+1-i) i S e=wgtG D st e0 na x nb y) (fun _ H1 wr=>na+2-ixOf H1 wr)
 case atStart=>exact⟨0,e0,g,B0,_,_,Nat.zero_le _,rfl,rfl,r5.out,A2.out,x5.out,rfl⟩
 obtain⟨i,e,g,ib,R,S,hi,rfl,rfl,B,k,c,c9⟩:=hrel;clear r5 A2 x5 I9;have J:=qh B;clear B;have I:=qh k;clear k;have l:=qh c;clear c;have B2:=qh c9;clear c9;have HI:=qh (y8u J.out.cell);have ci:=J.out.cell;have a9:=l.out.kx.cell;have M0:=l.out.k8.cell;have c5:=l.out.sc.c5;by_cases j6:i<=na/\e=0
 ·obtain⟨O0,rfl⟩:=j6;have O1:(i:Int)<=(na:Int):=by omega
  have b1:=l.out.ky.cell;have B6:=run_make_row' (P:=prog) 101 102 (.slice none 0 0) 24 underlying101 y9q rfl .i64 .i64 m (by have:=HM.out;omega) (by have:=HM.out;omega);have x3:((m:Nat):Int)=(nb:Int)+1:=by have:=HM.out;omega
  rw[x3] at B6;clear x3;have O3:∀ (fn:Fn) (first cap:Array Value) (w:World),(Instr.makeFunc fn first cap).run prog w=.ok (.func fn first cap) w:=fun _ _ _ _=>rfl
  obtain⟨wn,B4⟩:=exq (wr.alloc (.cells (madeCells #[.slice none 0 0] m) 102));obtain⟨g2,H4⟩:=exq (wr.heap.size);have B5:Fr (fun _=>False) wr wn:=by rw[B4];exact Fr.alloc _ _
  have y7:wn.rowIs g2 102 m (fun _=>.slice none 0 0):=by rw[B4,H4];exact World.rowIs_made wr (.slice none 0 0) m 102
  have n7:=I.out.two B5 (show wr.heap.size<=g2 by omega) l.out.gs.size y7;obtain⟨gg,B8⟩:∃ gg:Bool->Nat,gg=fun b=>if b then g2 else g:=⟨_,rfl⟩
  rw[<- B8] at n7;have K0:gg false=g:=by rw[B8];rfl
  have K8:gg true=g2:=by rw[B8];rfl
  have b6:=qh K0;clear K0;have p8:=qh K8;clear K8 B8;obtain⟨R2,J8⟩:∃ R2:Bool->Nat->Option Nat,R2=fun b=>if b then fun _=>none else R:=⟨_,rfl⟩
  rw[<- J8] at n7;clear J8;have F2:=qh (l.out.kept B5 (fun e=>e) (fun e=>e) (fun e=>e) (fun e=>e) (fun _ e=>e.elim));clear l;have F5:=qh (J.out.kept B5 (fun e=>e));clear J;have E5:=qh n7;clear n7 I B5 y7
  go_wp2_with fail
  rw[<- H4,<- B4];clear H4 B4 ci a9 M0 c5 b1;obtain⟨s0,B3⟩:∃ s0:RS,s0=(twoR S (fun _=>none),0):=⟨_,rfl⟩;have K7:=qh B3
  go_loopw [57] (fun I7 wr=>∃ (j:Nat) (R:Bool->Nat->Option Nat) (s:RS),j<=m/\I7=.int .i64 (j:Int)/\s=colG D st na x nb y i j s0/\VR wr w6.heap.size gg m D.n R s.1/\WG w w6 wr o c8 xb yb D (.slice a D.n cap) e5 (.slice ax na cx) (.slice ay nb cy) s.2/\Bx wr ib 3 (.int .i64 (i:Int))) (fun I7 _=>m-(intOf I7).toNat)
  case atStart=>exact⟨0,R2,s0,Nat.zero_le _,rfl,rfl,by rw[B3];exact E5.out,by rw[B3];exact F2.out,F5.out⟩
  obtain⟨j,Rp,sp,hj,rfl,j8,k,c,B⟩:=hrel;clear E5 F2 F5 B3;have I:=qh k;clear k;have l:=qh c;clear c;have J:=qh B;clear B;have C4:=qh j8;clear j8;by_cases a1:j<m
  ·have g6:=qh a1;have O4:(j:Int)<(m:Int):=by omega
   have N3:(0:Int)<=(j:Int):=by omega
   obtain⟨wj,l0⟩:=exq (wr.alloc (.cells #[.int .i64 (j:Int)] 3));obtain⟨jb,z⟩:=exq (wr.heap.size);have C0:Fr (fun _=>False) wr wj:=by rw[l0];exact Fr.alloc _ _
   have K9:Bx wj jb 3 (.int .i64 (j:Int)):=by rw[l0,z];exact heap_alloc_new wr _
   have s9:=I.out.kept C0 (fun _ e=>e) (fun _ _ _ _ _ e=>e);have hg:=(s9.top false).cell a1;rw[b6.out] at hg;have v0:=qh (l.out.kept C0 (fun e=>e) (fun e=>e) (fun e=>e) (fun e=>e) (fun _ e=>e.elim));clear l;have z5:=qh (J.out.kept C0 (fun e=>e));clear J;have E4:=qh K9;clear K9;have j4:=qh s9;clear s9 I C0;cases i9:sp.1 false j with
   | none =>
    have hr:=(j4.out.non false j a1).2 i9;rw[hr] at hg;have k6:wj.cell? ⟨g,j,none⟩=some (.slice none 0 0):=hg;have hq:=fun w=>y1i 102 9 underlying102 w none 0 0;rw[show (none:Option Addr).isNone=true from rfl] at hq;rw[l0] at k6;have k2:colG D st na x nb y i (j+1) s0=sp:=by show y0f D st na x nb y i j (colG D st na x nb y i j s0)=sp;rw[<- C4.out];unfold y0f;rw[i9]
    have d5:=qh k2;clear k2 i9 hr hg
    go_wp2_with fail
    rw[<- l0];go_roundw
    case rel=>exact⟨j+1,Rp,sp,by have:=g6.out;omega,by go_num,d5.out.symm,j4.out,v0.out,z5.out⟩
    simp[intOf];have:=g6.out;omega
   | some vp =>
    obtain⟨rp,l6,F9,_⟩:=j4.out.some_of a1 i9;rw[l6] at hg;have k6:wj.cell? ⟨g,j,none⟩=some (.slice (some ⟨rp,0,none⟩) D.n D.n):=hg;have hq:=fun w=>y1i 102 9 underlying102 w (some ⟨rp,0,none⟩) D.n D.n;rw[show (some (⟨rp,0,none⟩:Addr)).isNone=false from rfl] at hq;obtain⟨rr,G7⟩:=exq (z5s D.kind D.n st vp sp.2);have k2:colG D st na x nb y i (j+1) s0=cell3 D na x nb y i j rr.1 (cell2 D na x i j rr.1 (cell1 D nb y j rr.1 (updV sp.1 false j rr.1,rr.2))):=by show y0f D st na x nb y i j (colG D st na x nb y i j s0)=_;rw[<- C4.out,G7];unfold y0f;rw[i9]
    have H9:=qh G7;clear G7;have d5:=qh k2;clear k2;have z2:=qh i9;clear i9;have E0:=qh F9;clear F9;have b9:=qh l6;clear l6;rw[l0] at k6
    go_wp2_with fail
    rw[<- z,<- l0];clear l0 z k6 hg hq;have b2:Fr (fun _=>False) wj wj.drew:=(Fr.refl _ _).drew;obtain⟨wd,e3⟩:=exq (wj.drew);rw[<- e3] at b2;have u:=v0.out.kept b2 (fun e=>e) (fun e=>e) (fun e=>e) (fun e=>e) (fun _ e=>e.elim);have a7:=j4.out.kept b2 (fun _ e=>e) (fun _ _ _ _ _ e=>e);have k3:=z5.out.kept b2 (fun e=>e);have f8:=E4.out.kept b2 (fun e=>e);have W:wd.cell? ⟨c8,0,none⟩=some (.pointer (some ⟨o,0,none⟩))/\wd.cell? ⟨jb,0,none⟩=some (.int .i64 (j:Int))/\wd.cell? ⟨g,j,none⟩=some (.slice (some ⟨rp,0,none⟩) D.n D.n) :=
     ⟨u.k8.cell,f8.cell,by have H:=(a7.top false).cell a1;rw[b6.out,b9.out] at H;exact H⟩
    have x0:=a7.sm false j vp z2.out;have F4:=K3.out.later L2.out u.sc u.gs;have J9:=qh (v0j (rb:=rp) (st:=st) (v:=vp) wd HV.out u.sc F4 (b2.row E0.out (fun e=>e)) x0 w u.hb u.lc i8.out);clear F4;have f9:=qh u;clear u v0;have h3:=qh a7;clear a7 j4;have y4:=qh k3;clear k3 z5;have t7:=qh f8;clear f8 E4 b2;have E7:=qh x0;clear x0 E0;refine z0e (fun T=>T.cell? ⟨c8,0,none⟩=some (.pointer (some ⟨o,0,none⟩))/\T.cell? ⟨jb,0,none⟩=some (.int .i64 (j:Int))/\T.cell? ⟨g,j,none⟩=some (.slice (some ⟨rp,0,none⟩) D.n D.n)) 9 (by kernel_rfl) ?_;rw[<- e3];clear e3;refine z0c.tm 0 W ?_;refine z0c.tm 1 W ?_;refine z0c.tm 2 W ?_;refine z0c.tm 3 W ?_;refine z0c.tm 4 W ?_;refine z0c.tm 5 W ?_;refine z0c.tm 6 W ?_
    try simp only[Act.put,tryL]
    refine z0c.on 7 fun K U=>?_;go_simp;refine J9.out.mono ?_;rintro r N ⟨rv,rfl,l7,x8,L0,a6⟩;rw[<- H9.out] at l7 x8;have d2:∀ b,gg b≠o:=fun b=>h3.out.gne_of (show wd.heap[o]?=_ from f9.out.sc) (by decide) b;have d7:∀ b j r,j<m->Rp b j=some r->r≠o:=fun b j r H h2=>h3.out.rne_of (show wd.heap[o]?=_ from f9.out.sc) (by decide) H h2;have a8:ib≠o:=Bx.ne_scl y4.out f9.out.sc;have b0:jb≠o:=Bx.ne_scl t7.out f9.out.sc;have z9:g≠o:=by rw[<- b6.out];exact d2 false
    have e9:=f9.out.rested a6 x8;have s6:=y4.out.kept a6 a8;have o3:=t7.out.kept a6 b0;have D9:∀ q,smS (rr.1 q):=by rw[H9.out];exact v3v E7.out
    have A9:=h3.out.rested (b:=false) (x:=rr.1) a1 b9.out z2.out a6 d2 d7 l7 D9 L0 f9.out.gs.size;rw[b6.out] at A9;have A5:VR (N.setCell ⟨g,j,none⟩ (.slice (some ⟨rv,0,none⟩) D.n D.n)) w6.heap.size gg m D.n (fun b' j'=>if b'=false/\j'=j then some rv else Rp b' j') (updV sp.1 false j rr.1):=A9
    have c7:N.cell? ⟨c8,0,none⟩=some (.pointer (some ⟨o,0,none⟩))/\N.cell? ⟨jb,0,none⟩=some (.int .i64 (j:Int))/\N.cell? ⟨g,j,none⟩=some (.slice (some ⟨rp,0,none⟩) D.n D.n) :=
     ⟨e9.k8.cell,o3.cell,a6.cell W.2.2 z9⟩
    have l3:N.rowIs g 102 m (fun j=>vrV D.n (Rp false j)):=by
     have H:=h3.out.top false;rw[b6.out] at H;exact a6.row H z9
    have fg:=l3.frozen j;have o8:Fr (fun q=>q=g) N (N.setCell ⟨g,j,none⟩ (.slice (some ⟨rv,0,none⟩) D.n D.n)):=(Fr.refl (fun q=>q=g) N).set (p:=⟨g,j,none⟩) (.inl rfl) _;have G:∀ q cs t fr,N.heap[q]?=some (.cells cs t fr)->t≠102->¬ (q=g):=fun q cs t fr H h2 e=>z0h l3 H h2 e.symm;have F8:=e9.kept o8 (G o _ _ _ e9.sc (by decide)) (G c8 _ _ _ e9.k8 (by decide)) (G xb _ _ _ e9.kx (by decide)) (G yb _ _ _ e9.ky (by decide)) (fun q e=>by rw[e,<- b6.out];exact h3.out.low false);have D2:=s6.kept o8 (G ib _ _ _ s6 (by decide));have E6:=o3.kept o8 (G jb _ _ _ o3 (by decide));have l:=qh F8;clear F8 e9 f9;have J:=qh D2;clear D2 s6 y4;have a2:=qh E6;clear E6 o3 t7;have I:=qh A5;clear A5 A9 h3;clear o8 G l3 D9 a8 b0 z9 d2 d7 l7 x8 L0 a6 E7;refine U.out _ _ (.inr c7) ?_;clear U K W
    try simp only[Act.put,tryL]
    refine z0c.tm 8 c7 ?_
    try simp only[Act.put,tryL]
    have g0:=c7.2.2;refine z0c.on 9 fun K U=>?_;go_simp;refine U.out _ _ (.inl rfl) (z0c.dn ?_);clear U K J9;obtain⟨ws,I5⟩:=exq (N.setCell ⟨g,j,none⟩ (.slice (some ⟨rv,0,none⟩) D.n D.n));rw[<- I5] at I l J a2;rw[<- I5];clear I5 c7 fg g0;obtain⟨v,hv⟩:=exq (rr.1);obtain⟨s1,j8⟩:∃ s1:RS,s1=(updV sp.1 false j rr.1,rr.2):=⟨_,rfl⟩;obtain⟨R,hR⟩:∃ R:Bool->Nat->Option Nat,R=fun b' j'=>if b'=false/\j'=j then some rv else Rp b' j':=⟨_,rfl⟩
    have E:R false j=some rv:=by rw[hR];exact if_pos ⟨rfl,rfl⟩
    have Q:s1.1 false j=some v:=by rw[j8,hv];exact z6v _ _ _ _
    have x6:=I.out;rw[<- hR,show updV sp.1 false j rr.1=s1.1 by rw[j8]] at x6;have z6:=l.out;rw[show rr.2=s1.2 by rw[j8]] at z6;have k7:=d5.out;rw[<- j8,<- hv] at k7;clear I l d5 b9;have I:=qh x6;clear x6;have l:=qh z6;clear z6;have d5:=qh k7;clear k7;have b9:=qh E;clear E;have o7:=qh Q;clear Q H9 z2;clear j8 hR hv C4;by_cases j3:j<nb
    ·have K2:(j:Int)<(nb:Int):=by omega
     have ci:=J.out.cell;have cj:=a2.out.cell;have a9:=l.out.kx.cell;have b1:=l.out.ky.cell
     go_wp2_with fail
     clear ci cj a9 b1;have a3:=qh (show (j+1)<m by have:=HM.out;omega);have h6:Fr (fun _=>False) ws ws.drew:=(Fr.refl _ _).drew;obtain⟨l8,u2⟩:=exq (ws.drew);rw[<- u2] at h6;have L:=l.out.kept h6 (fun e=>e) (fun e=>e) (fun e=>e) (fun e=>e) (fun _ e=>e.elim);have o4:=I.out.kept h6 (fun _ e=>e) (fun _ _ _ _ _ e=>e);have D5:=J.out.kept h6 (fun e=>e);have t8:=a2.out.kept h6 (fun e=>e);have g1:l8.cell? ⟨c8,0,none⟩=some (.pointer (some ⟨o,0,none⟩))/\l8.cell? ⟨jb,0,none⟩=some (.int .i64 (j:Int))/\l8.cell? ⟨g,j,none⟩=some (.slice (some ⟨rv,0,none⟩) D.n D.n) :=
      ⟨L.k8.cell,t8.cell,by have H:=(o4.top false).cell a1;rw[b6.out,b9.out] at H;exact H⟩
     have p0:=x4u (b:=false) (j:=(j+1)) l8 o4 L.sc L.k8.cell a3.out L.gs.size HV.out.n1 (by have:=HV.out.n2;omega);rw[b6.out] at p0;have l2:IntKind.i64.wrap ((j:Int)+1)=(j:Int)+1:=by rw[IntKind.wrap_i64];have:=HM.out;omega
     rw[show (((j+1:Nat)):Int)=(j:Int)+1 by omega] at p0;have E9:=qh p0;clear p0;have h0:=qh L;clear L l;have y1:=qh o4;clear o4 I;have s7:=qh D5;clear D5 J;have u7:=qh t8;clear t8 a2 h6;refine z0e (fun T=>T.cell? ⟨c8,0,none⟩=some (.pointer (some ⟨o,0,none⟩))/\T.cell? ⟨jb,0,none⟩=some (.int .i64 (j:Int))/\T.cell? ⟨g,j,none⟩=some (.slice (some ⟨rv,0,none⟩) D.n D.n)) 11 (by kernel_rfl) ?_;rw[<- u2];clear u2;refine z0c.tm 0 g1 ?_;refine z0c.tm 1 g1 ?_;refine z0c.tm 2 g1 ?_;refine z0c.tm 3 g1 ?_;refine z0c.tm 4 g1 ?_;refine z0c.tm 6 g1 ?_;refine z0c.tm 7 g1 ?_;refine z0c.tm 8 g1 ?_;refine z0c.tm 9 g1 ?_;refine z0c.tm 10 g1 ?_
     try simp only[Act.put,tryL]
     refine z0c.on 5 fun K U=>?_;go_simp;refine E9.out.mono ?_;rintro r g3 ⟨Ra,v6,rfl,Y,e7,k,hf⟩;have G:∀ q cs t fr,l8.heap[q]?=some (.cells cs t fr)->t≠102->¬ (q=gg false):=fun q cs t fr H h2 e=>y1.out.gne_of H h2 false e.symm;have c:=h0.out.kept hf (G o _ _ _ h0.out.sc (by decide)) (G c8 _ _ _ h0.out.k8 (by decide)) (G xb _ _ _ h0.out.kx (by decide)) (G yb _ _ _ h0.out.ky (by decide)) (fun q e=>by rw[e];exact y1.out.low false);have B:=s7.out.kept hf (G ib _ _ _ s7.out (by decide));have z:=u7.out.kept hf (G jb _ _ _ u7.out (by decide));have X:¬ (false=false/\j=(j+1)):=fun e=>by have:=e.2;omega
     have E:Ra false j=some rv:=(e7 false j X).trans b9.out;have Q:(updV s1.1 false (j+1) ((s1.1 false (j+1)).getD z1d)) false j=some v:=(y7e X).trans o7.out;have F:=k.row false j rv v a1 E Q;have d:=k.row false (j+1) v6 ((s1.1 false (j+1)).getD z1d) a3.out Y (z6v _ _ _ _);have b4:o≠v6:=(z0h d.1 (show g3.heap[o]?=_ from c.sc) (by decide)).symm;have b5:rv≠o:=z0h F.1 (show g3.heap[o]?=_ from c.sc) (by decide);have e8:rv≠v6:=fun e=>X (k.sep false j false (j+1) rv a1 a3.out E (by rw[e];exact Y));have d0:∀ q,smS (((s1.1 false (j+1)).getD z1d) q):=k.sm false (j+1) _ (z6v _ _ _ _);have a5:∀ q,smS (v q):=k.sm false j v Q;have a8:ib≠o:=Bx.ne_scl B c.sc;have b0:jb≠o:=Bx.ne_scl z c.sc;have hP:PWt w o xb yb ib jb (.slice ax na cx) (.slice ay nb cy) i j g3:=⟨c.hb,c.kx,c.ky,B,z,c.nx,c.ny,a8,b0⟩;have lx:=(z0h d.1 c.kx (by decide)).symm;have ly:=(z0h d.1 c.ky (by decide)).symm;have li:=(z0h d.1 B (by decide)).symm;have lj:=(z0h d.1 z (by decide)).symm;have b3:=y2u (nf:=85) (cap:=#[.pointer (some ⟨yb,0,none⟩),.pointer (some ⟨jb,0,none⟩)]) (sel:=sel2 (y j)) (P:=PWt w o xb yb ib jb (.slice ax na cx) (.slice ay nb cy) i j) w g3 HV.out k1.out c.hb i8.out c.sc d.1 F.1 c.lc (Nat.le_trans j0.out d.2) b4 e8 b5 d0 a5 i7.out.aw hP
      (fun wa wb hp hf=>hp.fr hf c.lc (Nat.le_trans j0.out d.2) lx ly li lj) (tst2 HY.out j3)
     have v4:g3.cell? ⟨c8,0,none⟩=some (.pointer (some ⟨o,0,none⟩))/\g3.cell? ⟨jb,0,none⟩=some (.int .i64 (j:Int))/\g3.cell? ⟨g,j,none⟩=some (.slice (some ⟨rv,0,none⟩) D.n D.n) :=
      ⟨c.k8.cell,z.cell,by have H:=(k.top false).cell a1;rw[b6.out,E] at H;exact H⟩
     have d2:∀ b,gg b≠o:=fun b=>k.gne_of (show g3.heap[o]?=_ from c.sc) (by decide) b;have d7:∀ b j r,j<m->Ra b j=some r->r≠o:=fun b j r H h2=>k.rne_of (show g3.heap[o]?=_ from c.sc) (by decide) H h2;have G8:=a5;have f2:∀ (N:World) (lz:N.rowIs v6 9 D.n (fun q=>.string ((z3q D (sel2 (y j)) v D.n ((s1.1 false (j+1)).getD z1d,s1.2)).1 q))),Fr (fun q=>q=o\/q=v6) g3 N->Scl N o D (.slice a D.n cap) e5 (z3q D (sel2 (y j)) v D.n ((s1.1 false (j+1)).getD z1d,s1.2)).2 ->
       VR N w6.heap.size gg m D.n Ra (z2z D false (j+1) (sel2 (y j)) v s1).1/\WG w w6 N o c8 xb yb D (.slice a D.n cap) e5 (.slice ax na cx) (.slice ay nb cy) (z2z D false (j+1) (sel2 (y j)) v s1).2/\Bx N ib 3 (.int .i64 (i:Int))/\Bx N jb 3 (.int .i64 (j:Int)):=fun N lz fz sz=>by
      have H:=k.step2 a3.out Y fz d2 d7 lz (z7c a5 D.n d0);rw[z8j] at H;exact⟨H,c.stepped fz sz d.1 d.2,B.kept fz (fun e=>e.elim a8 li),z.kept fz (fun e=>e.elim b0 lj)⟩
     have u8:=qh b3;clear b3;have D4:=qh f2;clear f2;have b9:=qh E;clear E;have Z:(z2z D false (j+1) (sel2 (y j)) v s1).1 false j=some v:=(y0t X).trans o7.out;clear G8 G c B z Q F d b4 b5 e8 d0 a5 a8 b0 hP lx ly li lj d2 d7 hf k e7 Y X;have B9:=v4;refine U.out _ _ (.inr v4) ?_;clear U K
     try simp only[Act.put,tryL]
     refine z0c.on 11 fun K U=>?_;go_simp;refine u8.out.mono ?_;rintro r wt ⟨rfl,f1,a4,d1⟩;obtain⟨k,c,B,z⟩:=D4.out wt f1 d1 a4;refine U.out _ _ (.inl rfl) (z0c.dn ?_);clear U K B9 l2 f1 d1 a4 u8 D4 E9 g1 v4 y1 h0 s7 u7;obtain⟨s2,a4⟩:=exq (z2z D false (j+1) (sel2 (y j)) v s1);rw[<- a4] at k c Z;have C6:=qh a4;clear a4;have q7:=qh Z;clear Z;have I:=qh k;clear k;have l:=qh c;clear c;have J:=qh B;clear B;have a2:=qh z;clear z;by_cases d8:i<na
     ·have k5:(i:Int)<(na:Int):=by omega
      have ci:=J.out.cell;have cj:=a2.out.cell;have a9:=l.out.kx.cell;have b1:=l.out.ky.cell
      go_wp2_with fail
      clear ci cj a9 b1;have a3:=qh (show j<m by have:=HM.out;omega);have h9:Fr (fun _=>False) wt wt.drew:=(Fr.refl _ _).drew;obtain⟨m4,y3⟩:=exq (wt.drew);rw[<- y3] at h9;have i6:=l.out.kept h9 (fun e=>e) (fun e=>e) (fun e=>e) (fun e=>e) (fun _ e=>e.elim);have o9:=I.out.kept h9 (fun _ e=>e) (fun _ _ _ _ _ e=>e);have D1:=J.out.kept h9 (fun e=>e);have v8:=a2.out.kept h9 (fun e=>e);have g4:m4.cell? ⟨c8,0,none⟩=some (.pointer (some ⟨o,0,none⟩))/\m4.cell? ⟨jb,0,none⟩=some (.int .i64 (j:Int))/\m4.cell? ⟨g,j,none⟩=some (.slice (some ⟨rv,0,none⟩) D.n D.n) :=
       ⟨i6.k8.cell,v8.cell,by have H:=(o9.top false).cell a1;rw[b6.out,b9.out] at H;exact H⟩
      have x2:=x4u (b:=true) (j:=j) m4 o9 i6.sc i6.k8.cell a3.out i6.gs.size HV.out.n1 (by have:=HV.out.n2;omega);rw[p8.out] at x2;have l2:=HV.out;have C9:=qh x2;clear x2;have h7:=qh i6;clear i6 l;have A1:=qh o9;clear o9 I;have u3:=qh D1;clear D1 J;have v3:=qh v8;clear v8 a2 h9;refine z0e (fun T=>T.cell? ⟨c8,0,none⟩=some (.pointer (some ⟨o,0,none⟩))/\T.cell? ⟨jb,0,none⟩=some (.int .i64 (j:Int))/\T.cell? ⟨g,j,none⟩=some (.slice (some ⟨rv,0,none⟩) D.n D.n)) 10 (by kernel_rfl) ?_;rw[<- y3];clear y3;refine z0c.tm 0 g4 ?_;refine z0c.tm 1 g4 ?_;refine z0c.tm 2 g4 ?_;refine z0c.tm 3 g4 ?_;refine z0c.tm 5 g4 ?_;refine z0c.tm 6 g4 ?_;refine z0c.tm 7 g4 ?_;refine z0c.tm 8 g4 ?_;refine z0c.tm 9 g4 ?_
      try simp only[Act.put,tryL]
      refine z0c.on 4 fun K U=>?_;go_simp;refine C9.out.mono ?_;rintro r g5 ⟨Rb,x1,rfl,Y,e7,k,hf⟩;have G:∀ q cs t fr,m4.heap[q]?=some (.cells cs t fr)->t≠102->¬ (q=gg true):=fun q cs t fr H h2 e=>A1.out.gne_of H h2 true e.symm;have c:=h7.out.kept hf (G o _ _ _ h7.out.sc (by decide)) (G c8 _ _ _ h7.out.k8 (by decide)) (G xb _ _ _ h7.out.kx (by decide)) (G yb _ _ _ h7.out.ky (by decide)) (fun q e=>by rw[e];exact A1.out.low true);have B:=u3.out.kept hf (G ib _ _ _ u3.out (by decide));have z:=v3.out.kept hf (G jb _ _ _ v3.out (by decide));have X:¬ (false=true/\j=j):=fun e=>by cases e.1
      have E:Rb false j=some rv:=(e7 false j X).trans b9.out;have Q:(updV s2.1 true j ((s2.1 true j).getD z1d)) false j=some v:=(y7e X).trans q7.out;have F:=k.row false j rv v a1 E Q;have d:=k.row true j x1 ((s2.1 true j).getD z1d) a3.out Y (z6v _ _ _ _);have b4:o≠x1:=(z0h d.1 (show g5.heap[o]?=_ from c.sc) (by decide)).symm;have b5:rv≠o:=z0h F.1 (show g5.heap[o]?=_ from c.sc) (by decide);have e8:rv≠x1:=fun e=>X (k.sep false j true j rv a1 a3.out E (by rw[e];exact Y));have d0:∀ q,smS (((s2.1 true j).getD z1d) q):=k.sm true j _ (z6v _ _ _ _);have a5:∀ q,smS (v q):=k.sm false j v Q;have a8:ib≠o:=Bx.ne_scl B c.sc;have b0:jb≠o:=Bx.ne_scl z c.sc;have hP:PWt w o xb yb ib jb (.slice ax na cx) (.slice ay nb cy) i j g5:=⟨c.hb,c.kx,c.ky,B,z,c.nx,c.ny,a8,b0⟩;have lx:=(z0h d.1 c.kx (by decide)).symm;have ly:=(z0h d.1 c.ky (by decide)).symm;have li:=(z0h d.1 B (by decide)).symm;have lj:=(z0h d.1 z (by decide)).symm;have b3:=y2u (nf:=86) (cap:=#[.pointer (some ⟨xb,0,none⟩),.pointer (some ⟨ib,0,none⟩)]) (sel:=sel3 (x i)) (P:=PWt w o xb yb ib jb (.slice ax na cx) (.slice ay nb cy) i j) w g5 HV.out k1.out c.hb i8.out c.sc d.1 F.1 c.lc (Nat.le_trans j0.out d.2) b4 e8 b5 d0 a5 i7.out.aw hP
       (fun wa wb hp hf=>hp.fr hf c.lc (Nat.le_trans j0.out d.2) lx ly li lj) (tst3 HX.out d8)
      have u4:g5.cell? ⟨c8,0,none⟩=some (.pointer (some ⟨o,0,none⟩))/\g5.cell? ⟨jb,0,none⟩=some (.int .i64 (j:Int))/\g5.cell? ⟨g,j,none⟩=some (.slice (some ⟨rv,0,none⟩) D.n D.n) :=
       ⟨c.k8.cell,z.cell,by have H:=(k.top false).cell a1;rw[b6.out,E] at H;exact H⟩
      have d2:∀ b,gg b≠o:=fun b=>k.gne_of (show g5.heap[o]?=_ from c.sc) (by decide) b;have d7:∀ b j r,j<m->Rb b j=some r->r≠o:=fun b j r H h2=>k.rne_of (show g5.heap[o]?=_ from c.sc) (by decide) H h2;have G5:=a5;have f2:∀ (N:World) (lz:N.rowIs x1 9 D.n (fun q=>.string ((z3q D (sel3 (x i)) v D.n ((s2.1 true j).getD z1d,s2.2)).1 q))),Fr (fun q=>q=o\/q=x1) g5 N->Scl N o D (.slice a D.n cap) e5 (z3q D (sel3 (x i)) v D.n ((s2.1 true j).getD z1d,s2.2)).2 ->
        VR N w6.heap.size gg m D.n Rb (z2z D true j (sel3 (x i)) v s2).1/\WG w w6 N o c8 xb yb D (.slice a D.n cap) e5 (.slice ax na cx) (.slice ay nb cy) (z2z D true j (sel3 (x i)) v s2).2/\Bx N ib 3 (.int .i64 (i:Int))/\Bx N jb 3 (.int .i64 (j:Int)):=fun N lz fz sz=>by
       have H:=k.step2 a3.out Y fz d2 d7 lz (z7c a5 D.n d0);rw[z8j] at H;exact⟨H,c.stepped fz sz d.1 d.2,B.kept fz (fun e=>e.elim a8 li),z.kept fz (fun e=>e.elim b0 lj)⟩
      have r6:=qh b3;clear b3;have F1:=qh f2;clear f2;have b9:=qh E;clear E;have Z:(z2z D true j (sel3 (x i)) v s2).1 false j=some v:=(y0t X).trans q7.out;clear G5 G c B z Q F d b4 b5 e8 d0 a5 a8 b0 hP lx ly li lj d2 d7 hf k e7 Y X;have C2:=u4;refine U.out _ _ (.inr u4) ?_;clear U K
      try simp only[Act.put,tryL]
      refine z0c.on 10 fun K U=>?_;go_simp;refine r6.out.mono ?_;rintro r wu ⟨rfl,f1,a4,d1⟩;obtain⟨k,c,B,z⟩:=F1.out wu f1 d1 a4;refine U.out _ _ (.inl rfl) (z0c.dn ?_);clear U K C2 l2 f1 d1 a4 r6 F1 C9 g4 u4 A1 h7 u3 v3;obtain⟨s3,H0⟩:=exq (z2z D true j (sel3 (x i)) v s2);rw[<- H0] at k c Z;have M7:=qh H0;clear H0;have F6:=qh Z;clear Z;have I:=qh k;clear k;have l:=qh c;clear c;have J:=qh B;clear B;have a2:=qh z;clear z;have ci:=J.out.cell;have cj:=a2.out.cell;have a9:=l.out.kx.cell;have b1:=l.out.ky.cell
      go_wp2_with fail
      clear ci cj a9 b1;have a3:=qh (show (j+1)<m by have:=HM.out;omega);have h5:Fr (fun _=>False) wu wu.drew:=(Fr.refl _ _).drew;obtain⟨l5,u9⟩:=exq (wu.drew);rw[<- u9] at h5;have h4:=l.out.kept h5 (fun e=>e) (fun e=>e) (fun e=>e) (fun e=>e) (fun _ e=>e.elim);have o2:=I.out.kept h5 (fun _ e=>e) (fun _ _ _ _ _ e=>e);have D8:=J.out.kept h5 (fun e=>e);have u0:=a2.out.kept h5 (fun e=>e);have f7:l5.cell? ⟨c8,0,none⟩=some (.pointer (some ⟨o,0,none⟩))/\l5.cell? ⟨jb,0,none⟩=some (.int .i64 (j:Int))/\l5.cell? ⟨g,j,none⟩=some (.slice (some ⟨rv,0,none⟩) D.n D.n) :=
       ⟨h4.k8.cell,u0.cell,by have H:=(o2.top false).cell a1;rw[b6.out,b9.out] at H;exact H⟩
      have n5:=x4u (b:=true) (j:=(j+1)) l5 o2 h4.sc h4.k8.cell a3.out h4.gs.size HV.out.n1 (by have:=HV.out.n2;omega);rw[p8.out] at n5;have l2:IntKind.i64.wrap ((j:Int)+1)=(j:Int)+1:=by rw[IntKind.wrap_i64];have:=HM.out;omega
      rw[show (((j+1:Nat)):Int)=(j:Int)+1 by omega] at n5;have D0:=qh n5;clear n5;have i5:=qh h4;clear h4 l;have A4:=qh o2;clear o2 I;have u5:=qh D8;clear D8 J;have x7:=qh u0;clear u0 a2 h5;refine z0e (fun T=>T.cell? ⟨c8,0,none⟩=some (.pointer (some ⟨o,0,none⟩))/\T.cell? ⟨jb,0,none⟩=some (.int .i64 (j:Int))/\T.cell? ⟨g,j,none⟩=some (.slice (some ⟨rv,0,none⟩) D.n D.n)) 11 (by kernel_rfl) ?_;rw[<- u9];clear u9;refine z0c.tm 0 f7 ?_;refine z0c.tm 1 f7 ?_;refine z0c.tm 2 f7 ?_;refine z0c.tm 3 f7 ?_;refine z0c.tm 4 f7 ?_;refine z0c.tm 6 f7 ?_;refine z0c.tm 7 f7 ?_;refine z0c.tm 8 f7 ?_;refine z0c.tm 9 f7 ?_;refine z0c.tm 10 f7 ?_
      try simp only[Act.put,tryL]
      refine z0c.on 5 fun K U=>?_;go_simp;refine D0.out.mono ?_;rintro r g9 ⟨Rc,x9,rfl,Y,e7,k,hf⟩;have G:∀ q cs t fr,l5.heap[q]?=some (.cells cs t fr)->t≠102->¬ (q=gg true):=fun q cs t fr H h2 e=>A4.out.gne_of H h2 true e.symm;have c:=i5.out.kept hf (G o _ _ _ i5.out.sc (by decide)) (G c8 _ _ _ i5.out.k8 (by decide)) (G xb _ _ _ i5.out.kx (by decide)) (G yb _ _ _ i5.out.ky (by decide)) (fun q e=>by rw[e];exact A4.out.low true);have B:=u5.out.kept hf (G ib _ _ _ u5.out (by decide));have z:=x7.out.kept hf (G jb _ _ _ x7.out (by decide));have X:¬ (false=true/\j=(j+1)):=fun e=>by cases e.1
      have E:Rc false j=some rv:=(e7 false j X).trans b9.out;have Q:(updV s3.1 true (j+1) ((s3.1 true (j+1)).getD z1d)) false j=some v:=(y7e X).trans F6.out;have F:=k.row false j rv v a1 E Q;have d:=k.row true (j+1) x9 ((s3.1 true (j+1)).getD z1d) a3.out Y (z6v _ _ _ _);have b4:o≠x9:=(z0h d.1 (show g9.heap[o]?=_ from c.sc) (by decide)).symm;have b5:rv≠o:=z0h F.1 (show g9.heap[o]?=_ from c.sc) (by decide);have e8:rv≠x9:=fun e=>X (k.sep false j true (j+1) rv a1 a3.out E (by rw[e];exact Y));have d0:∀ q,smS (((s3.1 true (j+1)).getD z1d) q):=k.sm true (j+1) _ (z6v _ _ _ _);have a5:∀ q,smS (v q):=k.sm false j v Q;have a8:ib≠o:=Bx.ne_scl B c.sc;have b0:jb≠o:=Bx.ne_scl z c.sc;have hP:PWt w o xb yb ib jb (.slice ax na cx) (.slice ay nb cy) i j g9:=⟨c.hb,c.kx,c.ky,B,z,c.nx,c.ny,a8,b0⟩;have lx:=(z0h d.1 c.kx (by decide)).symm;have ly:=(z0h d.1 c.ky (by decide)).symm;have li:=(z0h d.1 B (by decide)).symm;have lj:=(z0h d.1 z (by decide)).symm;have b3:=y2u (nf:=87) (cap:=#[.pointer (some ⟨xb,0,none⟩),.pointer (some ⟨ib,0,none⟩),.pointer (some ⟨yb,0,none⟩),.pointer (some ⟨jb,0,none⟩)]) (sel:=sel4 (x i) (y j)) (P:=PWt w o xb yb ib jb (.slice ax na cx) (.slice ay nb cy) i j) w g9 HV.out k1.out c.hb i8.out c.sc d.1 F.1 c.lc (Nat.le_trans j0.out d.2) b4 e8 b5 d0 a5 i7.out.aw hP
       (fun wa wb hp hf=>hp.fr hf c.lc (Nat.le_trans j0.out d.2) lx ly li lj) (tst4 HX.out d8 HY.out j3)
      have r3:g9.cell? ⟨c8,0,none⟩=some (.pointer (some ⟨o,0,none⟩))/\g9.cell? ⟨jb,0,none⟩=some (.int .i64 (j:Int))/\g9.cell? ⟨g,j,none⟩=some (.slice (some ⟨rv,0,none⟩) D.n D.n) :=
       ⟨c.k8.cell,z.cell,by have H:=(k.top false).cell a1;rw[b6.out,E] at H;exact H⟩
      have d2:∀ b,gg b≠o:=fun b=>k.gne_of (show g9.heap[o]?=_ from c.sc) (by decide) b;have d7:∀ b j r,j<m->Rc b j=some r->r≠o:=fun b j r H h2=>k.rne_of (show g9.heap[o]?=_ from c.sc) (by decide) H h2;have G6:=a5;have f2:∀ (N:World) (lz:N.rowIs x9 9 D.n (fun q=>.string ((z3q D (sel4 (x i) (y j)) v D.n ((s3.1 true (j+1)).getD z1d,s3.2)).1 q))),Fr (fun q=>q=o\/q=x9) g9 N->Scl N o D (.slice a D.n cap) e5 (z3q D (sel4 (x i) (y j)) v D.n ((s3.1 true (j+1)).getD z1d,s3.2)).2 ->
        VR N w6.heap.size gg m D.n Rc (z2z D true (j+1) (sel4 (x i) (y j)) v s3).1/\WG w w6 N o c8 xb yb D (.slice a D.n cap) e5 (.slice ax na cx) (.slice ay nb cy) (z2z D true (j+1) (sel4 (x i) (y j)) v s3).2/\Bx N ib 3 (.int .i64 (i:Int))/\Bx N jb 3 (.int .i64 (j:Int)):=fun N lz fz sz=>by
       have H:=k.step2 a3.out Y fz d2 d7 lz (z7c a5 D.n d0);rw[z8j] at H;exact⟨H,c.stepped fz sz d.1 d.2,B.kept fz (fun e=>e.elim a8 li),z.kept fz (fun e=>e.elim b0 lj)⟩
      have r9:=qh b3;clear b3;have E8:=qh f2;clear f2;have b9:=qh E;clear E;have Z:(z2z D true (j+1) (sel4 (x i) (y j)) v s3).1 false j=some v:=(y0t X).trans F6.out;clear G6 G c B z Q F d b4 b5 e8 d0 a5 a8 b0 hP lx ly li lj d2 d7 hf k e7 Y X;have C3:=r3;refine U.out _ _ (.inr r3) ?_;clear U K
      try simp only[Act.put,tryL]
      refine z0c.on 11 fun K U=>?_;go_simp;refine r9.out.mono ?_;rintro r wv ⟨rfl,f1,a4,d1⟩;obtain⟨k,c,B,z⟩:=E8.out wv f1 d1 a4;refine U.out _ _ (.inl rfl) (z0c.dn ?_);clear U K C3 l2 f1 d1 a4 r9 E8 D0 f7 r3 A4 i5 u5 x7;obtain⟨s4,I3⟩:=exq (z2z D true (j+1) (sel4 (x i) (y j)) v s3);rw[<- I3] at k c Z;have M6:=qh I3;clear I3;have N0:=qh Z;clear Z;have I:=qh k;clear k;have l:=qh c;clear c;have J:=qh B;clear B;have a2:=qh z;clear z;have ci:=J.out.cell;have cj:=a2.out.cell;have a9:=l.out.kx.cell;have b1:=l.out.ky.cell
      go_wp2_with fail
      clear ci cj a9 b1;go_roundw
      case rel=>exact⟨j+1,_,s4,by have:=g6.out;omega,by go_num,by rw[d5.out];unfold cell1 cell2 cell3;rw[if_pos j3,if_pos d8,if_pos ⟨d8,j3⟩,M6.out,M7.out,C6.out],I.out,l.out,J.out⟩
      simp[intOf];have:=g6.out;omega
     have k5:¬ ((i:Int)<(na:Int)):=by omega
     have ci:=J.out.cell;have cj:=a2.out.cell;have a9:=l.out.kx.cell;have b1:=l.out.ky.cell
     go_wp2_with fail
     clear ci cj a9 b1;go_roundw
     case rel=>exact⟨j+1,_,s2,by have:=g6.out;omega,by go_num,by rw[d5.out];unfold cell1 cell2 cell3;rw[if_pos j3,if_neg d8,if_neg (fun h=>d8 h.1),C6.out],I.out,l.out,J.out⟩
     simp[intOf];have:=g6.out;omega
    have K2:¬ ((j:Int)<(nb:Int)):=by omega
    by_cases d8:i<na
    ·have k5:(i:Int)<(na:Int):=by omega
     have ci:=J.out.cell;have cj:=a2.out.cell;have a9:=l.out.kx.cell;have b1:=l.out.ky.cell
     go_wp2_with fail
     clear ci cj a9 b1;have a3:=qh (show j<m by have:=HM.out;omega);have i4:Fr (fun _=>False) ws ws.drew:=(Fr.refl _ _).drew;obtain⟨l1,s5⟩:=exq (ws.drew);rw[<- s5] at i4;have u:=l.out.kept i4 (fun e=>e) (fun e=>e) (fun e=>e) (fun e=>e) (fun _ e=>e.elim);have a7:=I.out.kept i4 (fun _ e=>e) (fun _ _ _ _ _ e=>e);have k3:=J.out.kept i4 (fun e=>e);have f8:=a2.out.kept i4 (fun e=>e);have g7:l1.cell? ⟨c8,0,none⟩=some (.pointer (some ⟨o,0,none⟩))/\l1.cell? ⟨jb,0,none⟩=some (.int .i64 (j:Int))/\l1.cell? ⟨g,j,none⟩=some (.slice (some ⟨rv,0,none⟩) D.n D.n) :=
      ⟨u.k8.cell,f8.cell,by have H:=(a7.top false).cell a1;rw[b6.out,b9.out] at H;exact H⟩
     have q9:=x4u (b:=true) (j:=j) l1 a7 u.sc u.k8.cell a3.out u.gs.size HV.out.n1 (by have:=HV.out.n2;omega);rw[p8.out] at q9;have l2:=HV.out;have G0:=qh q9;clear q9;have i2:=qh u;clear u l;have z7:=qh a7;clear a7 I;have u6:=qh k3;clear k3 J;have A8:=qh f8;clear f8 a2 i4;refine z0e (fun T=>T.cell? ⟨c8,0,none⟩=some (.pointer (some ⟨o,0,none⟩))/\T.cell? ⟨jb,0,none⟩=some (.int .i64 (j:Int))/\T.cell? ⟨g,j,none⟩=some (.slice (some ⟨rv,0,none⟩) D.n D.n)) 10 (by kernel_rfl) ?_;rw[<- s5];clear s5;refine z0c.tm 0 g7 ?_;refine z0c.tm 1 g7 ?_;refine z0c.tm 2 g7 ?_;refine z0c.tm 3 g7 ?_;refine z0c.tm 5 g7 ?_;refine z0c.tm 6 g7 ?_;refine z0c.tm 7 g7 ?_;refine z0c.tm 8 g7 ?_;refine z0c.tm 9 g7 ?_
     try simp only[Act.put,tryL]
     refine z0c.on 4 fun K U=>?_;go_simp;refine G0.out.mono ?_;rintro r g8 ⟨Rd,w0,rfl,Y,e7,k,hf⟩;have G:∀ q cs t fr,l1.heap[q]?=some (.cells cs t fr)->t≠102->¬ (q=gg true):=fun q cs t fr H h2 e=>z7.out.gne_of H h2 true e.symm;have c:=i2.out.kept hf (G o _ _ _ i2.out.sc (by decide)) (G c8 _ _ _ i2.out.k8 (by decide)) (G xb _ _ _ i2.out.kx (by decide)) (G yb _ _ _ i2.out.ky (by decide)) (fun q e=>by rw[e];exact z7.out.low true);have B:=u6.out.kept hf (G ib _ _ _ u6.out (by decide));have z:=A8.out.kept hf (G jb _ _ _ A8.out (by decide));have X:¬ (false=true/\j=j):=fun e=>by cases e.1
     have E:Rd false j=some rv:=(e7 false j X).trans b9.out;have Q:(updV s1.1 true j ((s1.1 true j).getD z1d)) false j=some v:=(y7e X).trans o7.out;have F:=k.row false j rv v a1 E Q;have d:=k.row true j w0 ((s1.1 true j).getD z1d) a3.out Y (z6v _ _ _ _);have b4:o≠w0:=(z0h d.1 (show g8.heap[o]?=_ from c.sc) (by decide)).symm;have b5:rv≠o:=z0h F.1 (show g8.heap[o]?=_ from c.sc) (by decide);have e8:rv≠w0:=fun e=>X (k.sep false j true j rv a1 a3.out E (by rw[e];exact Y));have d0:∀ q,smS (((s1.1 true j).getD z1d) q):=k.sm true j _ (z6v _ _ _ _);have a5:∀ q,smS (v q):=k.sm false j v Q;have a8:ib≠o:=Bx.ne_scl B c.sc;have b0:jb≠o:=Bx.ne_scl z c.sc;have hP:PWt w o xb yb ib jb (.slice ax na cx) (.slice ay nb cy) i j g8:=⟨c.hb,c.kx,c.ky,B,z,c.nx,c.ny,a8,b0⟩;have lx:=(z0h d.1 c.kx (by decide)).symm;have ly:=(z0h d.1 c.ky (by decide)).symm;have li:=(z0h d.1 B (by decide)).symm;have lj:=(z0h d.1 z (by decide)).symm;have b3:=y2u (nf:=86) (cap:=#[.pointer (some ⟨xb,0,none⟩),.pointer (some ⟨ib,0,none⟩)]) (sel:=sel3 (x i)) (P:=PWt w o xb yb ib jb (.slice ax na cx) (.slice ay nb cy) i j) w g8 HV.out k1.out c.hb i8.out c.sc d.1 F.1 c.lc (Nat.le_trans j0.out d.2) b4 e8 b5 d0 a5 i7.out.aw hP
      (fun wa wb hp hf=>hp.fr hf c.lc (Nat.le_trans j0.out d.2) lx ly li lj) (tst3 HX.out d8)
     have u1:g8.cell? ⟨c8,0,none⟩=some (.pointer (some ⟨o,0,none⟩))/\g8.cell? ⟨jb,0,none⟩=some (.int .i64 (j:Int))/\g8.cell? ⟨g,j,none⟩=some (.slice (some ⟨rv,0,none⟩) D.n D.n) :=
      ⟨c.k8.cell,z.cell,by have H:=(k.top false).cell a1;rw[b6.out,E] at H;exact H⟩
     have d2:∀ b,gg b≠o:=fun b=>k.gne_of (show g8.heap[o]?=_ from c.sc) (by decide) b;have d7:∀ b j r,j<m->Rd b j=some r->r≠o:=fun b j r H h2=>k.rne_of (show g8.heap[o]?=_ from c.sc) (by decide) H h2;have I2:=a5;have f2:∀ (N:World) (lz:N.rowIs w0 9 D.n (fun q=>.string ((z3q D (sel3 (x i)) v D.n ((s1.1 true j).getD z1d,s1.2)).1 q))),Fr (fun q=>q=o\/q=w0) g8 N->Scl N o D (.slice a D.n cap) e5 (z3q D (sel3 (x i)) v D.n ((s1.1 true j).getD z1d,s1.2)).2 ->
       VR N w6.heap.size gg m D.n Rd (z2z D true j (sel3 (x i)) v s1).1/\WG w w6 N o c8 xb yb D (.slice a D.n cap) e5 (.slice ax na cx) (.slice ay nb cy) (z2z D true j (sel3 (x i)) v s1).2/\Bx N ib 3 (.int .i64 (i:Int))/\Bx N jb 3 (.int .i64 (j:Int)):=fun N lz fz sz=>by
      have H:=k.step2 a3.out Y fz d2 d7 lz (z7c a5 D.n d0);rw[z8j] at H;exact⟨H,c.stepped fz sz d.1 d.2,B.kept fz (fun e=>e.elim a8 li),z.kept fz (fun e=>e.elim b0 lj)⟩
     have y5:=qh b3;clear b3;have G1:=qh f2;clear f2;have b9:=qh E;clear E;have Z:(z2z D true j (sel3 (x i)) v s1).1 false j=some v:=(y0t X).trans o7.out;clear I2 G c B z Q F d b4 b5 e8 d0 a5 a8 b0 hP lx ly li lj d2 d7 hf k e7 Y X;have C1:=u1;refine U.out _ _ (.inr u1) ?_;clear U K
     try simp only[Act.put,tryL]
     refine z0c.on 10 fun K U=>?_;go_simp;refine y5.out.mono ?_;rintro r wt ⟨rfl,f1,a4,d1⟩;obtain⟨k,c,B,z⟩:=G1.out wt f1 d1 a4;refine U.out _ _ (.inl rfl) (z0c.dn ?_);clear U K C1 l2 f1 d1 a4 y5 G1 G0 g7 u1 z7 i2 u6 A8;obtain⟨s2,a4⟩:=exq (z2z D true j (sel3 (x i)) v s1);rw[<- a4] at k c Z;have C6:=qh a4;clear a4;have q7:=qh Z;clear Z;have I:=qh k;clear k;have l:=qh c;clear c;have J:=qh B;clear B;have a2:=qh z;clear z;have ci:=J.out.cell;have cj:=a2.out.cell;have a9:=l.out.kx.cell;have b1:=l.out.ky.cell
     go_wp2_with fail
     clear ci cj a9 b1;go_roundw
     case rel=>exact⟨j+1,_,s2,by have:=g6.out;omega,by go_num,by rw[d5.out];unfold cell1 cell2 cell3;rw[if_neg j3,if_pos d8,if_neg (fun h=>j3 h.2),C6.out],I.out,l.out,J.out⟩
     simp[intOf];have:=g6.out;omega
    have k5:¬ ((i:Int)<(na:Int)):=by omega
    have ci:=J.out.cell;have cj:=a2.out.cell;have a9:=l.out.kx.cell;have b1:=l.out.ky.cell
    go_wp2_with fail
    clear ci cj a9 b1;go_roundw
    case rel=>exact⟨j+1,_,s1,by have:=g6.out;omega,by go_num,by rw[d5.out];unfold cell1 cell2 cell3;rw[if_neg j3,if_neg d8,if_neg (fun h=>d8 h.1)],I.out,l.out,J.out⟩
    simp[intOf];have:=g6.out;omega
  have J7:j=m:=by omega
  obtain⟨s1,rfl⟩:=exq (sp);obtain⟨R,rfl⟩:=exq (Rp);have O2:¬ ((j:Int)<(m:Int)):=by omega
  have H8:nb<m:=by have:=HM.out;omega
  have N9:(nb:Int)<(m:Int):=by omega
  have N4:(0:Int)<=(nb:Int):=by omega
  subst J7;have hk:na+1-i=(na-i)+1:=by omega
  have c9:=B2.out;rw[hk] at c9;unfold outG at c9;rw[if_neg (by simp),<- K7.out,<- HM.out,<- C4.out] at c9;clear hk B2;have ci:=J.out.cell;have a9:=l.out.kx.cell;have b1:=l.out.ky.cell;have hg:=(I.out.top false).cell H8;rw[b6.out] at hg;cases hf:s1.1 false nb with
  | none =>
   have hr:=(I.out.non false nb H8).2 hf;rw[hr] at hg;have k6:wr.cell? ⟨g,nb,none⟩=some (.slice none 0 0):=hg;have hq:=fun w=>v3m 102 9 underlying102 w none 0 0;rw[show (!(none:Option Addr).isNone)=false from rfl] at hq;rw[if_neg (fun h=>by rw[hf] at h;cases h.2)] at c9;have j5:=qh c9;clear c9 hf hr hg;by_cases j6:i=na
   ·have D3:na=i:=j6.symm;rw[D3] at j5;subst D3;obtain⟨e2,b8⟩:=exq (wr.heap.size);obtain⟨N,d9⟩:=exq (wr.alloc (.cells #[.int .i64 ((na:Int)+1)] 3));have a6:Fr (fun _=>False) wr N:=by rw[d9];exact Fr.alloc wr _
    have j9:Bx N e2 3 (.int .i64 ((na+1:Nat):Int)):=by rw[d9,b8];exact heap_alloc_new wr _
    have k4:=qh (l.out.kept a6 (fun e=>e) (fun e=>e) (fun e=>e) (fun e=>e) (fun _ e=>e.elim));have f3:=(I.out.one true).kept a6;rw[p8.out] at f3;have k0:=qh f3;clear f3;have j7:=qh j9;clear j9 a6
    go_wp2_with fail
    rw[<- d9,<- b8];clear d9 b8;go_roundw
    case rel=>exact⟨na+1,s1.2,g2,e2,_,_,by omega,rfl,rfl,j7.out,k0.out,k4.out,by rw[show na+1-(na+1)=na-na by omega];exact j5.out⟩
    rw[y8u j7.out.cell,HI.out];omega
   have L5:¬ ((i:Int)=(na:Int)):=by omega
   obtain⟨e2,b8⟩:=exq (wr.heap.size);obtain⟨N,d9⟩:=exq (wr.alloc (.cells #[.int .i64 ((i:Int)+1)] 3));have a6:Fr (fun _=>False) wr N:=by rw[d9];exact Fr.alloc wr _
   have j9:Bx N e2 3 (.int .i64 ((i+1:Nat):Int)):=by rw[d9,b8];exact heap_alloc_new wr _
   have k4:=qh (l.out.kept a6 (fun e=>e) (fun e=>e) (fun e=>e) (fun e=>e) (fun _ e=>e.elim));have f3:=(I.out.one true).kept a6;rw[p8.out] at f3;have k0:=qh f3;clear f3;have j7:=qh j9;clear j9 a6
   go_wp2_with fail
   rw[<- d9,<- b8];clear d9 b8;go_roundw
   case rel=>exact⟨i+1,s1.2,g2,e2,_,_,by omega,rfl,rfl,j7.out,k0.out,k4.out,by rw[show na+1-(i+1)=na-i by omega];exact j5.out⟩
   rw[y8u j7.out.cell,HI.out];omega
  | some v =>
   obtain⟨rv,l6,F,_⟩:=I.out.some_of H8 hf;rw[l6] at hg;have k6:wr.cell? ⟨g,nb,none⟩=some (.slice (some ⟨rv,0,none⟩) D.n D.n):=hg;have hq:=fun w=>v3m 102 9 underlying102 w (some ⟨rv,0,none⟩) D.n D.n;rw[show (!(some (⟨rv,0,none⟩:Addr)).isNone)=true from rfl] at hq;by_cases j6:i=na
   ·subst j6;rw[if_pos ⟨rfl,by rw[hf];rfl⟩,hf] at c9;have n6:=qh (show wgtG D st e0 i x nb y=finC D v s1.2 from c9.symm);clear c9;have b2:Fr (fun _=>False) wr wr.drew:=(Fr.refl _ _).drew;obtain⟨wd,e3⟩:=exq (wr.drew);rw[<- e3] at b2;have u:=l.out.kept b2 (fun e=>e) (fun e=>e) (fun e=>e) (fun e=>e) (fun _ e=>e.elim);have a7:=I.out.kept b2 (fun _ e=>e) (fun _ _ _ _ _ e=>e);have m7:=b2.row F (fun e=>e);have z8:wd.cell? ⟨g,nb,none⟩=some (.slice (some ⟨rv,0,none⟩) D.n D.n):=b2.cell k6 (fun e=>e);have W:wd.cell? ⟨c8,0,none⟩=some (.pointer (some ⟨o,0,none⟩))/\wd.cell? ⟨yb,0,none⟩=some (.slice ay nb cy)/\wd.cell? ⟨g,nb,none⟩=some (.slice (some ⟨rv,0,none⟩) D.n D.n):=⟨u.k8.cell,u.ky.cell,z8⟩;have z4:=qh (y1g (v:=v) w wd HV.out k1.out u.hb i8.out u.sc m7 u.lc (z0h m7 (show wd.heap[o]?=_ from u.sc) (by decide)) (I.out.sm false nb v hf) i7.out.fin);have M4:=qh u.n8;have M9:=qh u.ny;have M2:=qh (show g≠o by rw[<- b6.out];exact a7.gne_of (show wd.heap[o]?=_ from u.sc) (by decide) false);have l:=qh u;clear u a7 m7 z8 b2;clear hf l6 F hg
    go_wp2_with fail
    refine z0e (fun T=>T.cell? ⟨c8,0,none⟩=some (.pointer (some ⟨o,0,none⟩))/\T.cell? ⟨yb,0,none⟩=some (.slice ay nb cy)/\T.cell? ⟨g,nb,none⟩=some (.slice (some ⟨rv,0,none⟩) D.n D.n)) 10 (by kernel_rfl) ?_;rw[<- e3];clear e3;refine z0c.tm 0 W ?_;refine z0c.tm 1 W ?_;refine z0c.tm 2 W ?_;refine z0c.tm 3 W ?_;refine z0c.tm 4 W ?_;refine z0c.tm 5 W ?_
    try simp only[Act.put,tryL]
    refine z0c.on 6 fun K U=>?_;go_simp;refine z4.out.mono ?_;rintro r wf ⟨rfl,e4⟩;have c7:wf.cell? ⟨c8,0,none⟩=some (.pointer (some ⟨o,0,none⟩))/\wf.cell? ⟨yb,0,none⟩=some (.slice ay nb cy)/\wf.cell? ⟨g,nb,none⟩=some (.slice (some ⟨rv,0,none⟩) D.n D.n) :=
     ⟨e4.cell W.1 M4.out,e4.cell W.2.1 M9.out,e4.cell W.2.2 M2.out⟩
    have t9:=qh e4;clear e4;refine U.out _ _ (.inr c7) ?_;clear U K
    try simp only[Act.put,tryL]
    refine z0c.tm 7 c7 ?_;refine z0c.tm 8 c7 ?_;refine z0c.tm 9 c7 ?_
    try simp only[Act.put,tryL]
    refine z0c.on 10 fun K U=>?_;go_simp;refine U.out _ _ (.inl rfl) (z0c.dn ?_);clear U K;go_wp2;go_ret2;exact⟨l.out.hb.trans (t9.out.below l.out.hb.size (fun q e=>by rw[e];exact l.out.lc)),.inl ⟨HV.out,G2.out,I0.out,st,e0,A6.out,by rw[n6.out];rfl⟩⟩
   have L5:¬ ((i:Int)=(na:Int)):=by omega
   rw[if_neg (fun h=>j6 h.1)] at c9;have j5:=qh c9;clear c9 hf l6 F hg;obtain⟨e2,b8⟩:=exq (wr.heap.size);obtain⟨N,d9⟩:=exq (wr.alloc (.cells #[.int .i64 ((i:Int)+1)] 3));have a6:Fr (fun _=>False) wr N:=by rw[d9];exact Fr.alloc wr _
   have j9:Bx N e2 3 (.int .i64 ((i+1:Nat):Int)):=by rw[d9,b8];exact heap_alloc_new wr _
   have k4:=qh (l.out.kept a6 (fun e=>e) (fun e=>e) (fun e=>e) (fun e=>e) (fun _ e=>e.elim));have f3:=(I.out.one true).kept a6;rw[p8.out] at f3;have k0:=qh f3;clear f3;have j7:=qh j9;clear j9 a6
   go_wp2_with fail
   rw[<- d9,<- b8];clear d9 b8;go_roundw
   case rel=>exact⟨i+1,s1.2,g2,e2,_,_,by omega,rfl,rfl,j7.out,k0.out,k4.out,by rw[show na+1-(i+1)=na-i by omega];exact j5.out⟩
   rw[y8u j7.out.cell,HI.out];omega
 have n6:=qh (show wgtG D st e0 na x nb y=finC D z1d e by
  rw[<- B2.out];by_cases d8:i=na+1
  ·rw[show na+1-i=0 by omega];rfl
  rw[show na+1-i=(na-i)+1 by omega];unfold outG;rw[if_pos (fun h=>j6 ⟨by omega,h⟩)])
 have b2:Fr (fun _=>False) wr wr.drew:=(Fr.refl _ _).drew;obtain⟨wd,e3⟩:=exq (wr.drew);rw[<- e3] at b2;have u:=l.out.kept b2 (fun e=>e) (fun e=>e) (fun e=>e) (fun e=>e) (fun _ e=>e.elim);have W:wd.cell? ⟨c8,0,none⟩=some (.pointer (some ⟨o,0,none⟩)):=u.k8.cell;have L3:=qh (z9t wd u.sc HV.out.n1 (by have:=HV.out.n2;omega));have l:=qh u;clear u b2 B2 I J;by_cases d8:i<=na
 ·have k5:(i:Int)<=(na:Int):=by omega
  have N6:¬ ((e:Int)=0):=by have:=fun h:e=0=>j6 ⟨d8,h⟩;omega
  go_wp2_with fail
  refine z0e (fun T=>T.cell? ⟨c8,0,none⟩=some (.pointer (some ⟨o,0,none⟩))) 7 (by kernel_rfl) ?_;rw[<- e3];clear e3;refine z0c.tm 0 W ?_;refine z0c.tm 1 W ?_
  try simp only[Act.put,tryL]
  refine z0c.on 2 fun K U=>?_;go_simp;refine L3.out.mono ?_;rintro r wa ⟨rfl,e1,x4,_⟩;obtain⟨y6,f4⟩:=exq (wd.heap.size);rw[<- f4] at e1;rw[<- f4];have L:=l.out.kept x4 (fun e=>e) (fun e=>e) (fun e=>e) (fun e=>e) (fun _ e=>e.elim);have c7:wa.cell? ⟨c8,0,none⟩=some (.pointer (some ⟨o,0,none⟩)):=L.k8.cell;have z4:=qh (y1g (v:=z1d) w wa HV.out k1.out L.hb i8.out L.sc e1 L.lc (z0h e1 (show wa.heap[o]?=_ from L.sc) (by decide)) z8r i7.out.fin);have d3:=qh L;clear L e1 x4 f4;refine U.out _ _ (.inr c7) ?_;clear U K
  try simp only[Act.put,tryL]
  refine z0c.on 3 fun K U=>?_;go_simp;refine z4.out.mono ?_;rintro r wf ⟨rfl,e4⟩;have j1:wf.cell? ⟨c8,0,none⟩=some (.pointer (some ⟨o,0,none⟩)):=e4.cell c7 d3.out.n8;have t9:=qh e4;clear e4;refine U.out _ _ (.inr j1) ?_;clear U K
  try simp only[Act.put,tryL]
  refine z0c.tm 4 j1 ?_;refine z0c.tm 5 j1 ?_;refine z0c.tm 6 j1 ?_
  try simp only[Act.put,tryL]
  refine z0c.on 7 fun K U=>?_;go_simp;refine U.out _ _ (.inl rfl) (z0c.dn ?_);clear U K;go_wp2;go_ret2;exact⟨d3.out.hb.trans (t9.out.below d3.out.hb.size (fun q e=>by rw[e];exact d3.out.lc)),.inl ⟨HV.out,G2.out,I0.out,st,e0,A6.out,by rw[n6.out];rfl⟩⟩
 have k5:¬ ((i:Int)<=(na:Int)):=by omega
 go_wp2_with fail
 refine z0e (fun T=>T.cell? ⟨c8,0,none⟩=some (.pointer (some ⟨o,0,none⟩))) 7 (by kernel_rfl) ?_;rw[<- e3];clear e3;refine z0c.tm 0 W ?_;refine z0c.tm 1 W ?_
 try simp only[Act.put,tryL]
 refine z0c.on 2 fun K U=>?_;go_simp;refine L3.out.mono ?_;rintro r wa ⟨rfl,e1,x4,_⟩;obtain⟨y6,f4⟩:=exq (wd.heap.size);rw[<- f4] at e1;rw[<- f4];have L:=l.out.kept x4 (fun e=>e) (fun e=>e) (fun e=>e) (fun e=>e) (fun _ e=>e.elim);have c7:wa.cell? ⟨c8,0,none⟩=some (.pointer (some ⟨o,0,none⟩)):=L.k8.cell;have z4:=qh (y1g (v:=z1d) w wa HV.out k1.out L.hb i8.out L.sc e1 L.lc (z0h e1 (show wa.heap[o]?=_ from L.sc) (by decide)) z8r i7.out.fin);have d3:=qh L;clear L e1 x4 f4;refine U.out _ _ (.inr c7) ?_;clear U K
 try simp only[Act.put,tryL]
 refine z0c.on 3 fun K U=>?_;go_simp;refine z4.out.mono ?_;rintro r wf ⟨rfl,e4⟩;have j1:wf.cell? ⟨c8,0,none⟩=some (.pointer (some ⟨o,0,none⟩)):=e4.cell c7 d3.out.n8;have t9:=qh e4;clear e4;refine U.out _ _ (.inr j1) ?_;clear U K
 try simp only[Act.put,tryL]
 refine z0c.tm 4 j1 ?_;refine z0c.tm 5 j1 ?_;refine z0c.tm 6 j1 ?_
 try simp only[Act.put,tryL]
 refine z0c.on 7 fun K U=>?_;go_simp;refine U.out _ _ (.inl rfl) (z0c.dn ?_);clear U K;go_wp2;go_ret2;exact⟨d3.out.hb.trans (t9.out.below d3.out.hb.size (fun q e=>by rw[e];exact d3.out.lc)),.inl ⟨HV.out,G2.out,I0.out,st,e0,A6.out,by rw[n6.out];rfl⟩⟩
end
section
open Go.RowKit Go.Deep
end
section
open Go.RowKit Go.Deep
end
section
open Go.RowKit Go.Deep
theorem StV.below {w d:World} {c:Value} {n:Nat} {st:StarO} (h:StV w c n st) (hb:Below w.heap.size w d):StV d c n st:=by
 cases st with
 | none=>exact h
 | some S=>exact⟨h.1.kept (z0b hb none),h.2⟩
end
section
open Go.RowKit Go.Deep
def SumR (w:World) (sb:Nat) (k:Int) (e:Nat):Prop:=w.heap[sb]?=some (.cells #[.int .i64 k,.bool (decide (e≠0))] 156 (0,0))
theorem SumR.lt {w:World} {c e:Nat} {k:Int} (h:SumR w c k e):c<w.heap.size:=(Array.getElem?_eq_some_iff.1 h).1
theorem SumR.c1 {w:World} {c e:Nat} {k:Int} (h:SumR w c k e) {b:Bool} (hb:decide (e≠0)=b):w.cell? ⟨c,1,none⟩=some (.bool b):=by unfold SumR at h;rw[hb] at h;simp[World.cell?,h]
theorem SumR.set {w:World} {c e e':Nat} {k:Int} (h:SumR w c k e) {b:Bool} (hb:decide (e'≠0)=b):SumR (w.setCell ⟨c,1,none⟩ (.bool b)) c k e':=by
 unfold SumR at *;rw[hb];simp[World.setCell,Array.getElem?_modify,h]
theorem SumR.kept {w d:World} {c e:Nat} {k:Int} (h:SumR w c k e) (hb:Below w.heap.size w d):SumR d c k e:=by
 unfold SumR at *;rw[hb.block c (Array.getElem?_eq_some_iff.1 h).1];exact h
end
section
open Go.RowKit Go.Deep
def LR (n c d l:Nat):Nat:=if l<c then n else if l=c then d else 0
theorem u3s {n c:Nat} (l:Nat):LR n c n l=LR n (c+1) 0 l:=by
 unfold LR;by_cases e:l<c
 ·rw[if_pos e,if_pos (by omega)]
 by_cases d:l=c
 ·rw[if_neg e,if_pos d,if_pos (by omega)]
 rw[if_neg e,if_neg d,if_neg (by omega)];split<;>rfl
structure Bz (w wr:World) (gB n d m:Nat) (R:Nat->Value) (x:ByteArray):Prop where
 om:OM wr (fun _=>False) gB 9 79 gB n R (LR n d m) (fun _ _=>x)
 gr:Below gB w wr
 wg:w.heap.size<=gB
namespace Bz
variable {w wr w4 wz wa:World} {gB n d m:Nat} {R:Nat->Value} {x:ByteArray}
theorem start (w:World) (x:ByteArray):Bz w (w.alloc (.cells (madeCells #[.slice none 0 0] n) 79)) w.heap.size n 0 0 (fun _=>.slice none 0 0) x :=
 ⟨(OM.made w (fun _=>False) (by simp) w.heap.size nlr 9 79 n _).congrL fun l _=>by unfold LR;split<;>(try split)<;>first|rfl|omega,blr.alloc nlr _,nlr⟩
theorem row (h:Bz w wr gB n d n R x):Bz w wr gB n (d+1) 0 R x:=⟨h.om.congrL fun l _=>u3s l,h.gr,h.wg⟩
end Bz
end
section
open Go.RowKit Go.Deep
def Rw1 (w:World) (g sb gc n:Nat) (Y:Nat->Nat->ByteArray) (i:Nat):Prop :=
 ∃ rb cap,w.cell? ⟨g,i,none⟩=some (.slice (some ⟨rb,0,none⟩) n cap)/\rb<gc/\rb≠sb/\n<=cap/\cap<=9223372036854775807/\∀ j,j<n->w.cell? ⟨rb,j,none⟩=some (.string (Y i j))
theorem Rw1.gr {w wr:World} {g d c n:Nat} {Y:Nat->Nat->ByteArray} {i:Nat} (h:Rw1 w g d c n Y i) (p:Gr c (some d) w wr) (D:g<c) (l:g≠d):Rw1 wr g d c n Y i:=by
 obtain⟨m,k,z,s,o,A,B,u⟩:=h;exact⟨m,k,(World.cell?_of_block (p.block g D (by simp;exact l))).trans z,s,o,A,B,fun j C=>(World.cell?_of_block (p.block m s (by simp;exact o))).trans (u j C)⟩
end
section
open Go.RowKit Go.Deep
end
section
open Go.RowKit Go.Deep
def sel8 (lo:Bool) (i o:Int):Bool:=decide (i=0)&&(decide (o=0)||lo)
def sr8 (D:MD) (sel:Int->Int->Bool) (q:Nat):Nat->Nat->ByteArray
 | 0=>zerR D.kind
 | d+1=>if sel (D.ain q d) (D.aout q d)=true then updS (sr8 D sel q d) (D.ato q d).toNat (z1i D.kind (sr8 D sel q d (D.ato q d).toNat) (D.aw q d)).1 else sr8 D sel q d
def sm8 (D:MD) (sel:Int->Int->Bool) (q:Nat):Nat->ByteArray:=sr8 D sel q (D.na q)
def Sil8 (D:MD) (sel:Int->Int->Bool) (st:StarO) (e:Nat):Prop :=
 (NoSel D sel/\st=none/\e=0) \/
 (D.n<=60/\e=0/\∃ S,st=some S/\∀ k:KK,k.1=D.kind->∀ q p,q<D.n->p<D.n->Sv k (S q p) (CSR.starM (sils (rmOf k D) sel) D.n q p)) \/
 (e≠0/\st=none)
theorem Sil8.st {D:MD} {st:StarO} (h:Sil8 D silB st 0) {k:KK} (m:k.1=D.kind):StOk k D st:=by
 rcases h with ⟨d,rfl,_⟩|⟨_,_,S,rfl,o⟩|⟨d,_⟩
 ·intro q p c g;rw[<- y0q];exact SilOk.nosil d k q p c
 ·intro q p c g;have l:=o k m q p c g;rw[CSR.starM_congr (M':=sil (rmOf k D)) (fun i j _ _=>y0q _ i j) q p c g] at l;exact l
 exact absurd rfl d
section
open CSR
variable {D:MD} (hV:VM D) {k:KK} (hk:k.1=D.kind)
include hV hk
end
structure S8I (D:MD) (sel:Int->Int->Bool) (w wr:World) (mb g:Nat) (sv:Value) (rb:Nat->Nat) (q:Nat):Prop where
 bx:BxM wr mb D sv
 be:Below w.heap.size w wr
 gr:wr.rowIs g 79 D.n (fun i=>if i<q then .slice (some ⟨rb i,0,none⟩) D.n D.n else .slice none 0 0)
 rows:∀ i,i<q->wr.rowIs (rb i) 9 D.n (fun j=>.string (sm8 D sel i j))
 gl:w.heap.size<=g
 mg:mb≠g
structure S8R (D:MD) (sel:Int->Int->Bool) (w wr:World) (mb g:Nat) (sv:Value) (rb:Nat->Nat) (q lb:Nat) (l:Nat->ByteArray):Prop where
 bx:BxM wr mb D sv
 be:Below w.heap.size w wr
 gr:wr.rowIs g 79 D.n (fun i=>if i<q+1 then .slice (some ⟨if i=q then lb else rb i,0,none⟩) D.n D.n else .slice none 0 0)
 rows:∀ i,i<q->wr.rowIs (rb i) 9 D.n (fun j=>.string (sm8 D sel i j))/\rb i≠lb
 rl:wr.rowIs lb 9 D.n (fun j=>.string (l j))
 gl:w.heap.size<=g
 mg:mb≠g
 ll:w.heap.size<=lb
 ml:mb≠lb
 nl:g≠lb
section
variable {D:MD} {sel:Int->Int->Bool} {w wr wz:World} {mb g lb q:Nat} {sv:Value} {rb:Nat->Nat} {l:Nat->ByteArray}
theorem S8R.done (h:S8R D sel w wr mb g sv rb q lb (sr8 D sel q (D.na q))):S8I D sel w wr mb g sv (fun i=>if i=q then lb else rb i) (q+1) :=
 ⟨h.bx,h.be,h.gr,fun i hi=>by
  by_cases e:i=q
  ·subst e;simp only[if_pos];exact h.rl
  simp only[if_neg e];exact(h.rows i (by omega)).1,h.gl,h.mg⟩
end
end
section
open Go.RowKit Go.Deep
theorem x8w {n:Nat} {v:Value} {x:Nat->Int} (w:World) (D:Si none w v n x) (hn:(n:Int)<=9223372036854775807) :
  Calls prog 46 #[v] w (fun r w'=>r=.returned (.bool (isWord n x))/\w'=w):=by
 obtain⟨a,R,b,H,rfl,C,T,J,hb,c⟩:=D.open;unfold maxLen at J;have K:=qh C;clear C;have S:=qh c;clear c D hb;by_cases O:(200:Int)<(n:Int)
 ·have s:isWord n x=false:=by unfold isWord;rw[show decide (n<=200)=false by simp;omega];rfl
  rw[s];clear s
  go_enter func46,ntmps46
  go_wp2;go_ret;exact⟨rfl,rfl⟩
 have N:decide ((200:Int)<(n:Int))=false:=by simp;omega
 have P:n<=200:=by omega
 have s:isWord n x=y5i n x 500:=by unfold isWord;rw[show decide (n<=200)=true by simp;omega];simp
 rw[s];clear s O
 go_enter func46,ntmps46
 go_wp2_with fail
 go_loop [3] (fun i=>∃ q:Nat,q<=n/\i=.int .i64 (q:Int)/\∀ j,j<q->1<=x j/\x j<=500) (fun i=>n-(intOf i).toNat)
 case atStart=>exact⟨0,Nat.zero_le _,rfl,fun j F=>by omega⟩
 obtain⟨q,W,rfl,u⟩:=hrel;have A:=qh u;clear u;by_cases k:q<n
 ·have I:(q:Int)<(n:Int):=by omega
  have B:(0:Int)<=(q:Int):=by omega
  obtain rfl:=K.out (by omega);have c0:=S.out q k;obtain⟨p,l⟩:=exq (x q);rw[<- l] at c0;have m:=qh l;clear l;by_cases X:p<1
  ·have d:y5i n x 500=false:=y9m.2 fun h=>by have:=(h q k).1;rw[<- m.out] at this;omega
   have o:=qh d;clear d;go_wp2;go_ret;exact⟨z0v o.out.symm,rfl⟩
  have G:decide (p<1)=false:=by simp;omega
  by_cases U:(500:Int)<p
  ·have d:y5i n x 500=false:=y9m.2 fun h=>by have:=(h q k).2;rw[<- m.out] at this;omega
   have o:=qh d;clear d;go_wp2;go_ret;exact⟨z0v o.out.symm,rfl⟩
  have L:decide ((500:Int)<p)=false:=by simp;omega
  go_wp2
  go_round
  case rel=>exact⟨q+1,by omega,by go_num,fun j F=>by
   by_cases e:j=q
   ·subst e;rw[<- m.out];omega
   exact A.out j (by omega)⟩
  simp[intOf];omega
 have z:q=n:=by omega
 have E:¬ ((q:Int)<(n:Int)):=by omega
 have g:y5i n x 500=true:=z7k.2 fun i hi=>A.out i (by rw[z];exact hi);have Q:=qh g;clear g z;go_wp2;go_ret;exact⟨z0v Q.out.symm,rfl⟩
end
section
open Go.RowKit Go.Deep
def Wg8G (D:MD) (na:Nat) (x:Nat->Int) (nb:Nat) (y:Nat->Int) (w:World) (r:Ending) (w':World):Prop :=
 Below w.heap.size w w'/\((VM D/\isWord na x=true/\isWord nb y=true/\∃ st e z,Sil8 D silB st e/\z=(if e≠0 then (⟨#[]⟩,e) else v6p D st na x nb y)/\r=.returned (.tuple #[.string z.1,.int .i64 (z.2:Int)]))\/(¬ (VM D/\isWord na x=true/\isWord nb y=true)/\r=.returned (.tuple #[.string ⟨#[]⟩,.int .i64 1])))
end
section
open Go.RowKit Go.Deep
def Wv (D:MD) (na:Nat) (x:Nat->Int) (nb:Nat) (y:Nat->Int) (z:ByteArray × Nat):Prop:=z.2=0->∀ k:KK,k.1=D.kind->Sv k z.1 (rel (rmOf k D) (ls x na 0) (ls y nb 0))
def WvE (D:MD) (na:Nat) (x:Nat->Int) (nb:Nat) (y:Nat->Int) (w:World) (r:Ending) (w':World):Prop :=
 Below w.heap.size w w'/\∃ z:ByteArray × Nat,r=.returned (.tuple #[.string z.1,.int .i64 (z.2:Int)])/\((VM D/\isWord na x=true/\isWord nb y=true/\Wv D na x nb y z)\/(¬ (VM D/\isWord na x=true/\isWord nb y=true)/\z=(⟨#[]⟩,1)))
theorem isWord.ne {n:Nat} {x:Nat->Int} (h:isWord n x=true):∀ i,i<n->x i≠0:=fun i hi=>by
 unfold isWord at h;rw[Bool.and_eq_true] at h;have c:=z7k.1 h.2 i hi;omega
theorem WgtX.v {D:MD} {na:Nat} {x:Nat->Int} {nb:Nat} {y:Nat->Int} {w:World} {r:Ending} {i:World} (h:WgtX D na x nb y w r i):WvE D na x nb y w r i:=by
 refine⟨h.1,?_⟩
 rcases h.2 with ⟨l,j,g,st,m,c,d⟩|⟨u,d⟩
 ·refine⟨_,d,.inl ⟨l,j,g,fun p k o=>?_⟩⟩;by_cases s:m=0
  ·subst s;exact(u0w l o (c.st o) (isWord.ne j) (isWord.ne g) p).2
  exact absurd (x4r (show (outG D st na x nb y (na+1) 0 _ m).2=0 from p)) s
 exact⟨(⟨#[]⟩,1),d,.inr ⟨u,rfl⟩⟩
theorem Wg8G.v {D:MD} {na:Nat} {x:Nat->Int} {nb:Nat} {y:Nat->Int} {w:World} {r:Ending} {m:World} (h:Wg8G D na x nb y w r m):WvE D na x nb y w r m:=by
 refine⟨h.1,?_⟩
 rcases h.2 with ⟨p,o,l,st,A,z,g,c,i⟩|⟨u,i⟩
 ·refine⟨z,i,.inl ⟨p,o,l,fun d k s=>?_⟩⟩;by_cases j:A=0
  ·subst j;rw[if_neg (by simp)] at c;rw[c] at d ⊢;exact v6j p s (g.st s) (isWord.ne o) (isWord.ne l) d
  rw[if_pos j] at c;rw[c] at d;exact absurd d j
 exact⟨(⟨#[]⟩,1),i,.inr ⟨u,rfl⟩⟩
theorem Wv.eq {D j:MD} {na:Nat} {x:Nat->Int} {nb:Nat} {y:Nat->Int} {d:Nat} {m:Nat->Int} {g:Nat} {o:Nat->Int} {z l:ByteArray × Nat} (h:Wv D na x nb y z) (C:Wv j d m g o l) (A:VM D) (u:j.kind=D.kind)
  (s:∀ k:KK,k.1=D.kind->rel (rmOf k D) (ls x na 0) (ls y nb 0)=rel (rmOf k j) (ls m d 0) (ls o g 0)) (B:z.2=0) (i:l.2=0):z.1=l.1:=by
 obtain⟨k,c⟩:=A.kk;have p:=h B k c;have E:=C i k (c.trans u.symm);rw[s k c] at p;exact p.text E
theorem z9r {D:MD} {mv j i:Value} {na nb:Nat} {x y:Nat->Int} (w:World) (o:Ma none w mv D) (d:MSz D) (l:Tab w) (m:Si none w j na x) (k:Si none w i nb y) (g:(na:Int)<=9223372036854775807) (c:(nb:Int)<=9223372036854775807) :
  Calls prog 35 #[mv,j,i] w (WvE D na x nb y w):=(y3b w o d l m k g c).mono fun _ _ h=>h.v
end
section
open Go.RowKit Go.Deep
def Box4 (w:World) (b:Nat) (kd st:Int) (ld:ByteArray) (sv:Value):Prop:=w.heap[b]?=some (.cells #[.int .i64 kd,.int .i64 st,.string ld,sv] 24 (0,0))
theorem z0w (w:World) (b:Nat) (i g c d:Value) {k j m l:Value} {t:TypeId} (h:w.heap[b]?=some (.cells #[k,j,m,l] t (0,0))):(w.setCells b 0 [i,g,c,d]).heap[b]?=some (.cells #[i,g,c,d] t (0,0)):=by
 simp[World.setCells,World.setCell,Array.getElem?_modify,h]
theorem z0d {B b:Nat} {a w:World} (h:Below B a w) (hb:B<=b) (g d i c:Value):Below B a (w.setCells b 0 [g,d,i,c]) :=
 (((h.setCell (p:=⟨b,0,none⟩) hb g).setCell (p:=⟨b,0+1,none⟩) hb d).setCell (p:=⟨b,0+1+1,none⟩) hb i).setCell (p:=⟨b,0+1+1+1,none⟩) hb c
theorem u2q {w:World} {b:Nat} {d c i g:Value} {t:TypeId} (h:w.heap[b]?=some (.cells #[d,c,i,g] t (0,0))):w.there b 0 4:=by
 intro j k;have:j=0\/j=1\/j=2\/j=3:=by omega
 rcases this with rfl|rfl|rfl|rfl<;>simp[World.cell?,World.frozen?,h]
theorem Box4.range {w:World} {b:Nat} {g st:Int} {d:ByteArray} {sv:Value} (h:Box4 w b g st d sv):w.rangeAt b 0 [.int .i64 g,.int .i64 st,.string d,sv]:=by
 intro j v c;unfold Box4 at h;have i:j<4:=by have:=(List.getElem?_eq_some_iff.1 c).1;simpa using this
 have:j=0\/j=1\/j=2\/j=3:=by omega
 rcases this with rfl|rfl|rfl|rfl<;>(simp at c;subst c;simp[World.cell?,h])
theorem x0s {w:World} {b:Nat} {d st:Int} {c:ByteArray} {sv:Value} (h:Box4 w b d st c sv):(loadVar 24 ⟨b,0,none⟩).run prog w=.ok (.agg #[.int .i64 d,.int .i64 st,.string c,sv]) w :=
 run_loadVar_mid (P:=prog) w b 0 24 [.int .i64 d,.int .i64 st,.string c,sv] _ h.range underlying24 rfl (by kernel_rfl)
theorem x5m {fn:Func} {p:Tmp} (h:fn.results=#[.cell p 24]) (c:Array Value) {w:World} {b:Nat} {g st:Int} {d:ByteArray} {sv:Value} (i:c.getD p undef=.pointer (some ⟨b,0,none⟩)) (hb:Box4 w b g st d sv) :
  (results fn c).run prog w=.ok (.agg #[.int .i64 g,.int .i64 st,.string d,sv]) w:=by
 rw[z7z h,i];show ((loadVar 24 ⟨b,0,none⟩).run prog w)=_;exact x0s hb
theorem z0j {fn:Func} {p u:Tmp} (h:fn.results=#[.cell p 24,.tmp u]) (c:Array Value) {w:World} {b:Nat} {g st:Int} {d:ByteArray} {sv v:Value} (j:c.getD p undef=.pointer (some ⟨b,0,none⟩)) (i:c.getD u undef=v) (hb:Box4 w b g st d sv) :
  (results fn c).run prog w=.ok (.tuple #[.agg #[.int .i64 g,.int .i64 st,.string d,sv],v]) w:=by
 rw[results_cell_tmp h,j,i];show ((loadVar 24 ⟨b,0,none⟩).run prog w).andThen _=_;rw[x0s hb];rfl
end
section
open Go.RowKit Go.Deep
theorem y2e {P:Program} (w:World) (dT F C c:TypeId) (s n:Nat) (g m:Nat) (u:Option Addr) (k:Nat) (d:Array Value) (t:TypeId) (cs:List Value)
  (z:P.underlying dT=some (.slice c)) (A:(P.info? c).map (·.size)=some s) (E:w.heap[g]?=some (.cells d t (0,0))) (J:cs.length=n*s) (B:d.size=n*s)
  (o:0<n->∃ a,u=some a/\∀ j v,cs[j]?=some v->w.cell? (a.add j)=some v) (G:∀ v ∈ cs,v.oneCell'=true) :
  (Builtin.copy_ #[dT,F] C #[.slice (some ⟨g,0,none⟩) n m,.slice u n k]).run P w=.ok (goInt n) (w.setRow g cs.toArray):=by
 have h:=run_storeCells_at P g 0 t cs 0 d w E (by omega) G;have D:(d.toList.take (0+0)++cs++d.toList.drop (0+0+cs.length)).toArray=cs.toArray:=by
  rw[List.drop_eq_nil_of_le (by simp;omega)];simp
 rw[D] at h;cases l:P.info? c with
 | none=>simp[l] at A
 | some i =>
  have hi:i.size=s:=by simpa [l] using A
  by_cases I:n=0
  ·subst I;obtain rfl:cs=[]:=List.eq_nil_of_length_eq_zero (by omega);have p:∀ (x:Addr),(loadCells x 0).run P w=.ok #[] w:=fun x=>by simpa using run_loadCells_list (P:=P) w x [] (by simp)
   cases u with
   | none=>simp[Builtin.copy_,run_underlying z,Builtin.lenOf,Builtin.firstCells,sizeOf,typeInfo,l,h]
   | some a=>simp[Builtin.copy_,run_underlying z,Builtin.lenOf,Builtin.firstCells,sizeOf,typeInfo,l,p,h]
  obtain⟨a,rfl,H⟩:=o (by omega);have p:=run_loadCells_list (P:=P) w a cs H;rw[J] at p;simp[Builtin.copy_,run_underlying z,Builtin.lenOf,Builtin.firstCells,sizeOf,typeInfo,l,hi,p,h]
theorem z6r {P:Program} (t e:TypeId) (z:Value) (s c:Nat) (o:P.underlying t=some (.slice e)) (d:(P.info? e).map (fun i=>(i.zero,i.size,i.bytes))=some (some z,s,c))
  (m kc:IntKind) (n:Nat) (j:c*n<=281474976710656) (p:n<=9223372036854775807) (w:World) :
  (Instr.makeSlice t (.int m (n:Int)) (.int kc (n:Int))).run P w=.ok (.slice (some ⟨w.heap.size,0,none⟩) n n) (w.alloc (.cells (madeCells z.cells (n*s)) e)):=by
 obtain⟨i,hi,g⟩:=Option.map_eq_some_iff.1 d;simp only[Prod.mk.injEq] at g;obtain⟨u,A,hb⟩:=g;have k:(i.bytes:Int)*(n:Int)<=281474976710656:=by
  have h:((i.bytes*n:Nat):Int)<=281474976710656:=by rw[hb];omega
  rwa [Int.natCast_mul] at h
 have l:=run_make (P:=P) w t e i z o hi u m kc n n (by omega) (Int.le_refl _) k (by omega);simp only[Int.toNat_natCast,A] at l;exact l
theorem v4a (z:Array Value) (g:0<z.size) (n:Nat):(madeCells z (n*z.size)).toList=cat (fun _=>z.toList) n:=by
 refine List.ext_getElem? fun i=>?_;by_cases h:i<n*z.size
 ·have d:i % z.size<z.size:=Nat.mod_lt _ g;have l:i / z.size<n:=(Nat.div_lt_iff_lt_mul g).2 h;have k:i / z.size*z.size+i % z.size=i:=by rw[Nat.mul_comm];exact Nat.div_add_mod i z.size
  have j:=z5i (c:=fun _=>z.toList) (s:=z.size) (fun _=>by simp) d l;rw[k] at j;rw[j];have m:i<(madeCells z (n*z.size)).toList.length:=by simp[size_madeCells];exact h
  rw[List.getElem?_eq_getElem m];simp[madeCells,d]
 rw[List.getElem?_eq_none (by simp[size_madeCells];omega),List.getElem?_eq_none (by rw[z4h (s:=z.size) (fun _=>by simp)];omega)]
def z9g:Value:=.agg #[.int .i64 0,.int .i64 0,.string ⟨#[]⟩,.slice none 0 0]
theorem cells4 {w:World} {rb:Nat} {g v1 c d:Value} {t:TypeId} (h:w.heap[rb]?=some (.cells #[g,v1,c,d] t (0,0))):(w.cell? ⟨rb,0,none⟩=some g/\w.cell? ⟨rb,1,none⟩=some v1/\w.cell? ⟨rb,2,none⟩=some c/\w.cell? ⟨rb,3,none⟩=some d)/\∀ j,w.frozen? ⟨rb,j,none⟩=false :=
 ⟨⟨by simp[World.cell?,h],by simp[World.cell?,h],by simp[World.cell?,h],by simp[World.cell?,h]⟩,fun j=>by simp[World.frozen?,h]⟩
theorem x9j:(prog.info? 57).map (fun i=>(i.zero,i.size,i.bytes))=some (some (.agg #[.string ⟨#[]⟩,.slice none 0 0]),2,40):=by kernel_rfl
theorem v0c:(prog.info? 59).map (fun i=>(i.zero,i.size,i.bytes))=some (some (.agg #[.int .i64 0,.int .i64 0,.string ⟨#[]⟩,.int .i64 0]),4,40):=by kernel_rfl
def MkE (V:Prop) (D:MD) (e:Nat) (w:World) (r:Ending) (w':World):Prop :=
 Below w.heap.size w w'/\((V/\∃ sv R,r=.returned (.tuple #[.agg #[.int .i64 D.kind,.int .i64 D.start,.string D.lead,sv],.int .i64 0])/\OwM w' w.heap.size sv D R)\/(¬ V/\r=.returned (.tuple #[z9g,.int .i64 (e:Int)])))
end
section
open Go.RowKit Go.Deep
theorem z6m {o:Option TypeInfo} {z:Value} {s b:Nat} (h:o.map (fun i=>(i.zero,i.size,i.bytes))=some (some z,s,b)):∃ i,o=some i/\i.zero=some z/\i.size=s/\i.bytes=b:=by
 cases o with
 | none=>cases h
 | some i=>simp at h;exact⟨i,rfl,h.1,h.2.1,h.2.2⟩
def RowB (w:World) (q:Nat):Prop:=∃ cs t fr,w.heap[q]?=some (.cells cs t fr)/\(t=57\/t=59)
structure Kt (db:Nat) (w w':World):Prop where
 os:w'.os=w.os
 tape:w'.tape=w.tape
 output:w'.output=w.output
 size:w.heap.size<=w'.heap.size
 block:∀ q,q<w.heap.size->q≠db->¬ RowB w q->w'.heap[q]?=w.heap[q]?
theorem Kt.refl (db:Nat) (w:World):Kt db w w:=⟨rfl,rfl,rfl,nlr,fun _ _ _ _=>rfl⟩
theorem Kt.trans {db:Nat} {w g i:World} (h:Kt db w g) (k:Kt db g i):Kt db w i :=
 ⟨k.os.trans h.os,k.tape.trans h.tape,k.output.trans h.output,Nat.le_trans h.size k.size,fun q j c d=>(k.block q (by have:=h.size;omega) c (fun ⟨m,t,fr,l,o⟩=>d ⟨m,t,fr,by rw[<- h.block q j c d];exact l,o⟩)).trans (h.block q j c d)⟩
theorem Kt.of_fr {db:Nat} {w c:World} (h:Fr (fun q=>q=db) w c):Kt db w c:=⟨h.os,h.tape,h.output,h.size,fun q g d _=>h.block q g d⟩
theorem Kt.of_own {db B:Nat} {w j:World} {e:TypeId} {s n:Nat} {v:Value} {xs:List Value} (h:w.ownsRow B e s v n xs) (o:e=57\/e=59) (c:w.grownBy j v.ownBlock):Kt db w j :=
 ⟨c.os,c.tape,c.output,c.size,fun q u _ l=>c.block q u (fun k=>by
  rcases h.2 with ⟨rfl,_⟩|⟨g,m,d,rfl,_,i,_⟩
  ·cases k
  have p:q=g:=by simpa [Value.ownBlock] using k
  subst p;exact l ⟨d,e,_,i,o⟩)⟩
theorem z2n {w:World} {B:Nat} {e t:TypeId} {s n b:Nat} {v:Value} {xs:List Value} {cs:Array Value} {fr:Nat × Nat} (h:w.ownsRow B e s v n xs) (hb:w.heap[b]?=some (.cells cs t fr)) (d:t≠e):v.ownBlock≠some b:=by
 rcases h.2 with ⟨rfl,_⟩|⟨g,j,i,rfl,_,k,_⟩
 ·simp[Value.ownBlock]
 intro c;simp[Value.ownBlock] at c;subst c;rw[k] at hb;simp at hb;exact d hb.2.1.symm
def bcs (D:MD) (sv:Value) (one:ByteArray) (ac fl:Int):Array Value:=#[.int .i64 D.kind,.int .i64 D.start,.string D.lead,sv,.string one,.int .i64 ac,.int .i64 fl]
structure Bld (w:World) (B db:Nat) (D:MD) (R:Nat->Value) (sv:Value) (one:ByteArray) (ac fl:Int):Prop where
 blk:w.heap[db]?=some (.cells (bcs D sv one ac fl) 113 (0,0))
 own:OwM w B sv D R
 low:B<=db
theorem Bld.lt {w:World} {B db:Nat} {D:MD} {R:Nat->Value} {sv:Value} {one:ByteArray} {ac fl:Int} (h:Bld w B db D R sv one ac fl):db<w.heap.size:=(Array.getElem?_eq_some_iff.1 h.blk).1
section
variable {w:World} {db:Nat} {D:MD} {sv:Value} {one:ByteArray} {ac fl:Int} {t:TypeId} (h:w.heap[db]?=some (.cells (bcs D sv one ac fl) t (0,0)))
include h
theorem BlkB.c0:w.cell? ⟨db,0,none⟩=some (.int .i64 D.kind):=by unfold bcs at h;simp[World.cell?,h]
theorem BlkB.c1:w.cell? ⟨db,1,none⟩=some (.int .i64 D.start):=by unfold bcs at h;simp[World.cell?,h]
theorem BlkB.c2:w.cell? ⟨db,2,none⟩=some (.string D.lead):=by unfold bcs at h;simp[World.cell?,h]
theorem BlkB.c3:w.cell? ⟨db,3,none⟩=some sv:=by unfold bcs at h;simp[World.cell?,h]
theorem BlkB.c4:w.cell? ⟨db,4,none⟩=some (.string one):=by unfold bcs at h;simp[World.cell?,h]
theorem BlkB.c5:w.cell? ⟨db,5,none⟩=some (.int .i64 ac):=by unfold bcs at h;simp[World.cell?,h]
theorem BlkB.c6:w.cell? ⟨db,6,none⟩=some (.int .i64 fl):=by unfold bcs at h;simp[World.cell?,h]
theorem BlkB.fz (j:Nat):w.frozen? ⟨db,j,none⟩=false:=by simp[World.frozen?,h]
theorem BlkB.set3 (v:Value):(w.setCell ⟨db,3,none⟩ v).heap[db]?=some (.cells (bcs D v one ac fl) t (0,0)):=by
 unfold bcs at h ⊢;simp[World.setCell,Array.getElem?_modify,h]
theorem BlkB.set5 (a:Int):(w.setCell ⟨db,5,none⟩ (.int .i64 a)).heap[db]?=some (.cells (bcs D sv one a fl) t (0,0)):=by
 unfold bcs at h ⊢;simp[World.setCell,Array.getElem?_modify,h]
theorem BlkB.set6 (a:Int):(w.setCell ⟨db,6,none⟩ (.int .i64 a)).heap[db]?=some (.cells (bcs D sv one ac a) t (0,0)):=by
 unfold bcs at h ⊢;simp[World.setCell,Array.getElem?_modify,h]
end
def Fre (w:World) (sv:Value) (R:Nat->Value) (n b:Nat):Prop:=b<w.heap.size/\sv.ownBlock≠some b/\∀ i,i<n->(R i).ownBlock≠some b
def FrK (db:Nat) (w:World) (sv:Value) (R:Nat->Value) (n:Nat) (w':World) (sv':Value) (R':Nat->Value) (n':Nat):Prop:=∀ b,b≠db->Fre w sv R n b->Fre w' sv' R' n' b/\w'.heap[b]?=w.heap[b]?
def BlE (B db:Nat) (n:Nat) (R:Nat->Value) (sv:Value) (D':MD) (one:ByteArray) (ac' fl:Int) (w w':World):Prop:=(∃ R' sv',Bld w' B db D' R' sv' one ac' fl/\FrK db w sv R n w' sv' R' D'.n)/\Below B w w'
theorem y1c {w:World} {b:Nat} {cs:Array Value} {t:TypeId} {fr:Nat × Nat} (h:w.heap[b]?=some (.cells cs t fr)):∀ j u,cs.toList[j]?=some u->w.cell? ((⟨b,0,none⟩:Addr).add j)=some u:=by
 intro j u c;rw[Addr.add_lit,Nat.zero_add];simp[World.cell?,h]
 simpa using c
theorem u2d {f:ByteArray}:∀ u ∈ [Value.string f,Value.slice none 0 0],u.oneCell'=true:=by intro u c;simp at c;rcases c with rfl|rfl<;>rfl
theorem x6w {B db:Nat} {D:MD} {R:Nat->Value} {sv:Value} (f:ByteArray) (w:World) {one:ByteArray} {ac fl:Int} (h:Bld w B db D R sv one ac fl) (hB:B<=w.heap.size) (hn:D.n<=100000) :
  Calls prog 91 #[.pointer (some ⟨db,0,none⟩),.string f] w (fun r w'=>r=.returned (.int .i64 (D.n:Int))/\BlE B db D.n R sv (D.state f) one ac fl w w'):=by
 obtain⟨i0,hi,Q,T,W⟩:=z6m x9j;obtain⟨C,g⟩:=exq (w.alloc (.cells #[.string f,.slice none 0 0] 57));obtain⟨H,hH⟩:=exq (w.heap.size);have Z:w.grownBy C none:=by rw[g];exact World.grownBy_alloc _ _ _
 have s:C.ownsRow B 57 2 sv D.n (cat (st2 D R) D.n):=by rw[g];exact World.ownsRow.alloc h.own.top _
 have S:C.heap[H]?=some (.cells #[.string f,.slice none 0 0] 57 (0,0)):=by rw[g,hH];exact heap_alloc_new w _
 have l:C.heap[db]?=some (.cells (bcs D (sv) one ac fl) 113 (0,0)):=by rw[g,blk_alloc_lt _ _ _ h.lt];exact h.blk
 have c4:C.cell? ⟨db,3,none⟩=some sv:=BlkB.c3 l;have c7:w.cell? ⟨db,3,none⟩=some sv:=BlkB.c3 h.blk;have b5:C.heap.size=H+1:=by rw[g,hH];simp
 obtain⟨sa,sc,a3,_,_⟩:=z1e h.own.top;subst a3;have A:∀ u,(w.alloc (.cells #[.string f,.slice none 0 0] 57)).grownBy u (Value.slice sa D.n sc).ownBlock->u.heap[db]?=some (.cells (bcs D (.slice sa D.n sc) one ac fl) 113 (0,0)):=fun u hg=>by
  rw[<- g] at hg;exact(hg.block db (lt_of_block l) (fun e=>z2n s l (by decide) e.symm)).trans l
 have U:=qh A;clear A;have J:=qh h;clear h;have b2:=qh s;clear s;have b6:=qh S;clear S;have c8:=qh l;clear l;have b7:=qh Z;clear Z;have HI:=qh hi;have a2:=qh Q;have a5:=qh T;have b1:=qh W;clear hi Q T W;have b8:=qh hH;clear hH;have b3:=qh g
 go_enter func91,ntmps91
 go_wp2_with (at_builtin;refine wpList_append_lies _ rfl (.tmp 10) (.tmp 13) 22 rfl B 57 i0 (.agg #[.string ⟨#[]⟩,.slice none 0 0]) 2 40 underlying22 HI.out a2.out a5.out b1.out rfl (by omega) (.slice sa D.n sc) D.n _ (by first|rfl|simp[Act.eval,Act.put]) (World.ownsRow.alloc J.out.own.top _) ⟨w.heap.size,0,none⟩ 1 1 [.string f,.slice none 0 0] (by first|rfl|simp[Act.eval,Act.put]) rfl (y1c (cs:=#[.string f,.slice none 0 0]) (heap_alloc_new w _)) u2d (by omega) (by unfold maxLen;omega) (by omega) (by simp;omega) _ rfl ?_;intro G K u o c Y a8;have m:=U.out u c;have e4:=BlkB.c3 m;have f4:=BlkB.fz m 3)
 have j:u.ownsRow B 57 2 (.slice (some ⟨G,0,none⟩) (D.n+1) K) (D.n+1) (cat (st2 D R) D.n++[.string f,.slice none 0 0]):=o;have I:=J.out.own.state j c;have a1:(Value.slice (some ⟨G,0,none⟩) (D.n+1) K).ownBlock≠some db:=z2n j m (by decide);have L:∀ i,i<(D.state f).n->((fun i=>if i=D.n then Value.slice none 0 0 else R i) i).ownBlock≠some db:=fun i hi=>z2n (I.row i hi) m (by decide)
 obtain⟨F,d⟩:=exq (u.setCell ⟨db,3,none⟩ (.slice (some ⟨G,0,none⟩) (D.n+1) K));have z:OwM F B (.slice (some ⟨G,0,none⟩) (D.n+1) K) (D.state f) (fun i=>if i=D.n then .slice none 0 0 else R i):=by rw[d];exact I.other (p:=⟨db,3,none⟩) a1 L _
 have E:F.heap[db]?=some (.cells (bcs D (.slice (some ⟨G,0,none⟩) (D.n+1) K) one ac fl) 113 (0,0)):=by rw[d];exact BlkB.set3 m _
 have O:Kt db w F:=by
  have h1:Kt db w (w.alloc (.cells #[.string f,.slice none 0 0] 57)):=Kt.of_fr (Fr.alloc _ _);have h2:=Kt.of_own (db:=db) (World.ownsRow.alloc J.out.own.top (.cells #[.string f,.slice none 0 0] 57)) (.inl rfl) c;rw[d];exact(h1.trans h2).trans (Kt.of_fr ((Fr.refl (fun q=>q=db) u).set (p:=⟨db,3,none⟩) (.inl rfl) _))
 have N:FrK db w (.slice sa D.n sc) R D.n F (.slice (some ⟨G,0,none⟩) (D.n+1) K) (fun i=>if i=D.n then .slice none 0 0 else R i) (D.n+1):=by
  intro b hb hf;have P:b<(w.alloc (.cells #[.string f,.slice none 0 0] 57)).heap.size:=by have:=hf.1;simp;omega
  refine⟨⟨by rw[d,nblk_setCell];exact Nat.lt_of_lt_of_le P c.size,?_,fun i hi=>?_⟩,?_⟩
  ·intro e;have e2:G=b:=by simpa [Value.ownBlock] using e
   subst e2
   rcases Y with h1|h1
   ·exact hf.2.1 h1
   omega
  ·dsimp only
   split
   ·simp[Value.ownBlock]
   exact hf.2.2 i (by omega)
  rw[d,z0g hb];exact(c.block b P (fun e=>hf.2.1 e.symm)).trans (blk_alloc_lt _ _ _ hf.1)
 have a7:=qh N;clear N;have X:Below B w F:=by
  rw[d];exact((((Below.refl B w).alloc hB (.cells #[.string f,.slice none 0 0] 57)).grown c (by simp;omega) (fun k hk=>(World.ownsRow.lt (World.ownsRow.alloc J.out.own.top (.cells #[.string f,.slice none 0 0] 57)) k hk).1)).setCell (p:=⟨db,3,none⟩) J.out.low _)
 have a6:=qh z;clear z I;have b9:=qh O;clear O;have a4:=qh X;clear X j o c Y a8 a1 L;have c3:=BlkB.c3 E;have a9:=qh E;clear E m;rw[<- d];have b4:=qh d;clear d e4 f4;have b0:((D.n+1:Nat):Int)-1=(D.n:Int):=by omega
 go_wp2;go_ret;exact⟨by first|rfl|(rw[b0])|(go_num),⟨_,_,⟨a9.out,a6.out,J.out.low⟩,a7.out⟩,a4.out⟩
theorem y7m {a b t:Int} {x:ByteArray}:∀ u ∈ [Value.int .i64 a,Value.int .i64 b,Value.string x,Value.int .i64 t],u.oneCell'=true:=by intro u c;simp at c;rcases c with rfl|rfl|rfl|rfl<;>rfl
theorem v4k {B db q:Nat} {D:MD} {R:Nat->Value} {sv:Value} (a b t:Int) (x:ByteArray) (w:World) {one:ByteArray} {ac fl:Int} (h:Bld w B db D R sv one ac fl) (f2:0<=ac) (g3:ac<=100000) (hB:B<=w.heap.size) (hq:q<D.n) (hn:D.n<=100000) (g6:D.na q<=100000) :
  Calls prog 92 #[.pointer (some ⟨db,0,none⟩),.int .i64 (q:Int),.agg #[.int .i64 a,.int .i64 b,.string x,.int .i64 t]] w (fun r w'=>r=.returned (.tuple #[])/\BlE B db D.n R sv (D.arc q a b x t) one (ac+1) fl w w'):=by
 obtain⟨i0,hi,d0,d5,d4⟩:=z6m v0c;have f8:(q:Int)<(D.n:Int):=by omega
 have f4:(0:Int)<=(q:Int):=by omega
 obtain⟨g,S,rfl,_,_,_,_⟩:=z7w h.own.top (by omega);obtain⟨ra,rc,b1,_,_⟩:=z1e (h.own.row q hq);obtain⟨w1,C⟩:=exq (w.alloc (.cells #[.int .i64 a,.int .i64 b,.string x,.int .i64 t] 59));obtain⟨l,m⟩:∃ l,l=(w1.setCell ⟨db,5,none⟩ (.int .i64 (ac+1))).drew:=⟨_,rfl⟩;obtain⟨H,hH⟩:=exq (w.heap.size);have a8:l.heap.size=H+1:=by
  rw[m];show (w1.setCell ⟨db,5,none⟩ (.int .i64 (ac+1))).heap.size=_;rw[nblk_setCell,C,hH];simp
 have u:w1.heap[db]?=some (.cells (bcs D (.slice (some ⟨g,0,none⟩) D.n S) one ac fl) 113 (0,0)):=by rw[C,blk_alloc_lt _ _ _ h.lt];exact h.blk
 have c5:=BlkB.c5 u;have f5:=BlkB.fz u 5;rw[C] at c5 f5;have b5:Fr (fun q=>q=db) w w1:=by rw[C];exact Fr.alloc _ _
 have d3:Fr (fun q=>q=db) w l:=by rw[m];exact(b5.set (p:=⟨db,5,none⟩) (.inl rfl) _).drew
 have Q:l.heap[H]?=some (.cells #[.int .i64 a,.int .i64 b,.string x,.int .i64 t] 59 (0,0)):=by
  rw[m];show (w1.setCell ⟨db,5,none⟩ (.int .i64 (ac+1))).heap[H]?=_;rw[z0g (show H≠db by have:=h.lt;omega),C,hH];exact heap_alloc_new w _
 have a4:l.heap[db]?=some (.cells (bcs D (.slice (some ⟨g,0,none⟩) D.n S) one (ac+1) fl) 113 (0,0)):=by rw[m];exact BlkB.set5 u _
 have J:OwM w1 B (.slice (some ⟨g,0,none⟩) D.n S) D R:=h.own.kept (z:=none) (by rw[C];exact World.grownBy_alloc _ _ _) (by simp);have I:=J.other (p:=⟨db,5,none⟩) (z2n J.top u (by decide)) (fun i hi=>z2n (J.row i hi) u (by decide)) (.int .i64 (ac+1));have a1:OwM l B (.slice (some ⟨g,0,none⟩) D.n S) D R:=by rw[m];exact⟨I.top,I.row,I.apart⟩
 clear J I b5 u;have j:l.cell? ⟨db,3,none⟩=some (.slice (some ⟨g,0,none⟩) D.n S)/\l.cell? ⟨g,q*2+1,none⟩=some (.slice ra (D.na q) rc)/\l.cell? ⟨H,0,none⟩=some (.int .i64 a)/\l.cell? ⟨H,1,none⟩=some (.int .i64 b)/\l.cell? ⟨H,2,none⟩=some (.string x)/\l.cell? ⟨H,3,none⟩=some (.int .i64 t) :=
  ⟨BlkB.c3 a4,by rw[a1.arcs_cell hq,b1],by simp[World.cell?,Q],by simp[World.cell?,Q],by simp[World.cell?,Q],by simp[World.cell?,Q]⟩
 have a7:∀ i,i<D.n->(R i).ownBlock≠some db:=fun i hi=>z2n (a1.row i hi) a4 (by decide);have a5:(R q).ownBlock≠some g:=fun e=>a1.tne hq e rfl;have HI:=qh hi;have d8:=qh d0;have e4:=qh d5;have e9:=qh d4;clear hi d0 d5 d4;have HH:=qh h;clear h;have P:=qh a1;clear a1;have b3:=qh a4;clear a4;have g0:=qh Q;clear Q;have a2:=qh d3;clear d3;have a3:=qh b1;clear b1;have b6:=qh a7;clear a7;have X:=qh a5;clear a5
 go_enter func92,ntmps92
 go_wp2_with fail
 refine z0e (fun O=>O.cell? ⟨db,3,none⟩=some (.slice (some ⟨g,0,none⟩) D.n S)/\O.cell? ⟨g,q*2+1,none⟩=some (.slice ra (D.na q) rc)/\O.cell? ⟨H,0,none⟩=some (.int .i64 a)/\O.cell? ⟨H,1,none⟩=some (.int .i64 b)/\O.cell? ⟨H,2,none⟩=some (.string x)/\O.cell? ⟨H,3,none⟩=some (.int .i64 t)) 20 (by kernel_rfl) ?_;rw[<- C,<- m,<- hH];clear c5 f5;have f9:=qh C;clear C;have f7:=qh m;clear m;have b0:=qh hH;clear hH;refine z0c.tm 0 j ?_;refine z0c.tm 1 j ?_;refine z0c.tm 2 j ?_;refine z0c.tm 3 j ?_;refine z0c.tm 4 j ?_;refine z0c.tm 5 j ?_;refine z0c.tm 6 j ?_;refine z0c.tm 7 j ?_;refine z0c.tm 8 j ?_;refine z0c.tm 9 j ?_;refine z0c.tm 10 j ?_;refine z0c.tm 11 j ?_;refine z0c.tm 12 j ?_;refine z0c.tm 13 j ?_;refine z0c.tm 14 j ?_;refine z0c.tm 15 j ?_
 try simp only[Act.put,tryL]
 refine z0c.on 16 fun K hK=>?_;go_simp;obtain⟨F,G⟩:=exq (l.alloc (.cells #[.int .i64 a,.int .i64 b,.string x,.int .i64 t] 59));have s:l.grownBy F none:=by rw[G];exact World.grownBy_alloc _ _ _
 have c9:F.heap[H+1]?=some (.cells #[.int .i64 a,.int .i64 b,.string x,.int .i64 t] 59 (0,0)):=by rw[G,<- a8];exact heap_alloc_new l _
 have g5:F.heap.size=H+1+1:=by rw[G];simp[a8]
 have N:F.cell? ⟨db,3,none⟩=some (.slice (some ⟨g,0,none⟩) D.n S)/\F.cell? ⟨g,q*2+1,none⟩=some (.slice ra (D.na q) rc)/\F.cell? ⟨H,0,none⟩=some (.int .i64 a)/\F.cell? ⟨H,1,none⟩=some (.int .i64 b)/\F.cell? ⟨H,2,none⟩=some (.string x)/\F.cell? ⟨H,3,none⟩=some (.int .i64 t) :=
  ⟨s.cell j.1 (by simp),s.cell j.2.1 (by simp),s.cell j.2.2.1 (by simp),s.cell j.2.2.2.1 (by simp),s.cell j.2.2.2.2.1 (by simp),s.cell j.2.2.2.2.2 (by simp)⟩
 have L:F.ownsRow B 59 4 (.slice ra (D.na q) rc) (D.na q) (cat (arc4 D q) (D.na q)):=by rw[G,<- a3.out];exact World.ownsRow.alloc (P.out.row q hq) _
 have d7:B<=F.heap.size:=by have:=b0.out;omega
 rw[<- G];have W:=qh G;clear G;have f1:=qh c9;clear c9;refine hK.out _ _ (.inr N) ?_;clear hK K
 try simp only[Act.put,tryL]
 refine z0c.on 17 fun K hK=>?_;refine wp_append_lies _ (.tmp 27) (.tmp 29) 55 rfl B 59 i0 (.agg #[.int .i64 0,.int .i64 0,.string ⟨#[]⟩,.int .i64 0]) 4 40 underlying55 HI.out d8.out e4.out e9.out rfl (by omega) (.slice ra (D.na q) rc) (D.na q) _ (by simp[Act.eval]) L ⟨H+1,0,none⟩ 1 1 [.int .i64 a,.int .i64 b,.string x,.int .i64 t] (by simp[Act.eval]) rfl (y1c (cs:=#[.int .i64 a,.int .i64 b,.string x,.int .i64 t]) f1.out) y7m (by omega) (by unfold maxLen;omega) (by omega) d7 _ rfl ?_;intro go cq E Y A b2 e8;have d:F.grownBy E (R q).ownBlock:=by rw[a3.out];exact A
 have Z:E.heap[db]?=some (.cells (bcs D (.slice (some ⟨g,0,none⟩) D.n S) one (ac+1) fl) 113 (0,0)) :=
  (d.block db (by have:=lt_of_block b3.out;have:=s.size;omega) (fun e=>b6.out q hq e.symm)).trans ((s.block db (lt_of_block b3.out) (by simp)).trans b3.out)
 have g1:g<l.heap.size:=(World.ownsRow.lt P.out.top g rfl).2;have e0:E.cell? ⟨g,q*2+1,none⟩=some (.slice ra (D.na q) rc):=d.cell N.2.1 (fun e=>X.out e.symm);have d2:∀ c,(Value.slice (some ⟨go,0,none⟩) (D.na q+1) cq).ownBlock=some c->(R q).ownBlock=some c\/l.heap.size<=c:=fun c hc=>by
  have e:go=c:=by simpa [Value.ownBlock] using hc
  subst e
  rcases b2 with U|U
  ·exact .inl (by rw[a3.out];exact U)
  right;omega
 have a9:=P.out.arc (a:=a) (b:=b) (x:=x) (t:=t) (v':=.slice (some ⟨go,0,none⟩) (D.na q+1) cq) hq Y (o:=.cells #[.int .i64 a,.int .i64 b,.string x,.int .i64 t] 59) (by rw[<- W.out];exact d) d2;have g2:E.frozen? ⟨g,q*2+1,none⟩=false:=by
  have U:E.ownsRow B 57 2 (.slice (some ⟨g,0,none⟩) D.n S) D.n (cat (st2 D R) D.n):=z2j (by rw[W.out];exact World.ownsRow.alloc P.out.top _) d (fun c hc e=>by
   have e2:g=c:=by simpa [Value.ownBlock] using hc
   subst e2;exact X.out e)
  exact z5v U _
 have b4:E.cell? ⟨db,3,none⟩=some (.slice (some ⟨g,0,none⟩) D.n S)/\E.cell? ⟨g,q*2+1,none⟩=some (.slice ra (D.na q) rc)/\E.cell? ⟨H,0,none⟩=some (.int .i64 a)/\E.cell? ⟨H,1,none⟩=some (.int .i64 b)/\E.cell? ⟨H,2,none⟩=some (.string x)/\E.cell? ⟨H,3,none⟩=some (.int .i64 t):=by
  have T:some H≠(R q).ownBlock:=fun e=>by have:=(World.ownsRow.lt (HH.out.own.row q hq) H e.symm).2;rw[<- b0.out] at this;omega
  exact⟨BlkB.c3 Z,e0,d.cell N.2.2.1 T,d.cell N.2.2.2.1 T,d.cell N.2.2.2.2.1 T,d.cell N.2.2.2.2.2 T⟩
 have b9:FrK db w (.slice (some ⟨g,0,none⟩) D.n S) R D.n (E.setCell ⟨g,q*2+1,none⟩ (.slice (some ⟨go,0,none⟩) (D.na q+1) cq)) (.slice (some ⟨g,0,none⟩) D.n S) (fun i=>if i=q then .slice (some ⟨go,0,none⟩) (D.na q+1) cq else R i) D.n:=by
  intro b hb hf;have e7:b≠g:=fun e=>hf.2.1 (by rw[e];rfl);have d1:b<l.heap.size:=Nat.lt_of_lt_of_le hf.1 a2.out.size;have b7:b<F.heap.size:=Nat.lt_of_lt_of_le d1 s.size;refine⟨⟨by rw[nblk_setCell];exact Nat.lt_of_lt_of_le b7 d.size,hf.2.1,fun i hi=>?_⟩,?_⟩
  ·dsimp only
   split
   ·intro e;have e2:go=b:=by simpa [Value.ownBlock] using e
    subst e2
    rcases b2 with U|U
    ·exact hf.2.2 q hq (by rw[a3.out];exact U)
    omega
   exact hf.2.2 i hi
  rw[z0g e7];exact(d.block b b7 (fun e=>hf.2.2 q hq e.symm)).trans ((s.block b d1 (by simp)).trans (a2.out.block b hf.1 hb))
 have e6:=qh b9;clear b9;have c7:Kt db w E:=by
  have h2:=Kt.of_own (db:=db) (L) (.inr rfl) A;exact((Kt.of_fr a2.out).trans (Kt.of_fr (Fr.of_gb s (by simp)))).trans h2
 have d6:Below B w E:=((a2.out.below hB (fun q e=>by rw[e];exact HH.out.low)).trans (((Below.refl B l).alloc (by have:=b0.out;omega) _))).grown (by rw[<- W.out];exact A) (by rw[<- W.out];exact d7) (fun k hk=>(World.ownsRow.lt L k hk).1);have c8:=qh a9;clear a9;have a6:=qh Z;clear Z;have g4:=qh c7;clear c7;have e1:=qh d6;clear d6;have b8:∃ cs fr,E.heap[g]?=some (.cells cs 57 fr):=by
  have U:E.ownsRow B 57 2 (.slice (some ⟨g,0,none⟩) D.n S) D.n (cat (st2 D R) D.n):=z2j (by rw[W.out];exact World.ownsRow.alloc P.out.top _) d (fun c hc e=>by
   have e2:g=c:=by simpa [Value.ownBlock] using hc
   subst e2;exact X.out e)
  rcases U.2 with ⟨hv,_⟩|⟨g',f3,e3,hv,_,d9,_⟩
  ·cases hv
  cases hv;exact⟨e3,_,d9⟩
 have e5:=qh b8;clear b8;clear Y A d b2 e8 d2 L s;refine hK.out _ _ (.inr b4) ?_;clear hK K
 try simp only[Act.put,tryL]
 refine z0c.tm 18 b4 ?_;refine z0c.tm 19 b4 ?_
 try simp only[Act.put,tryL]
 refine z0c.on 20 fun K hK=>?_;go_simp;refine hK.out _ _ (.inl rfl) (z0c.dn ?_);clear hK K
 go_wp2_with fail
 go_end0
 have f0:B<=g:=(World.ownsRow.lt P.out.top g rfl).1;refine⟨rfl,⟨_,_,⟨?_,c8.out,HH.out.low⟩,e6.out⟩,e1.out.setCell (p:=⟨g,q*2+1,none⟩) f0 _⟩;have T:db≠g:=fun e=>by
  obtain⟨cs,fr,U⟩:=e5.out;rw[<- e,a6.out] at U;simp at U
 rw[z0g (show db≠g from T)];exact a6.out
end
end Go.Proofs.YteappjogmnogcaaGreatDoor
