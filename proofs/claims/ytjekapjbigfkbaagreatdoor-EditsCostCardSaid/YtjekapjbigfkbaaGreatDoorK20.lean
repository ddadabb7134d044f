/- Parts of a proof: WgF EdR. -/
import Derived.Test.YtjekapjbigfkbaaGreatDoorK19
import Derived.Test.YtjekapjbigfkbaaGreatDoorK18
namespace Go.Proofs.YtjekapjbigfkbaaGreatDoor
open Go Go.RowKit Go.Deep
set_option maxRecDepth 100000
set_option linter.unusedSimpArgs false
set_option maxHeartbeats 8000000 in
theorem finish_any {cb vb:Nat} {D:MD} {sv star:Value} {e:Nat} {v:Nat→ByteArray} (w0 w:World) (hv:VM D) (hD:StS none w0 sv D) (hb0:Below w0.heap.size w0 w) (ht:Tab w0)
  (hs:Scl w cb D sv star e) (hvr:w.rowIs vb 9 D.n (fun j=>.string (v j))) (hcb:w0.heap.size≤cb) (hvc:vb≠cb) (hvs:∀ j,smS (v j)) (hfs:∀ i,smS (D.fin i)) :
  Calls Tryz.prog 88 #[.pointer (some ⟨cb,0,none⟩),.slice (some ⟨vb,0,none⟩) D.n D.n] w (fun r w'=>r=.returned (.tuple #[.string (finC D v e).1,.int .i64 ((finC D v e).2:Int)])∧Fr (fun q=>q=cb) w w'):=by
 obtain ⟨a,cp,b,off,A,C,BB,O,rfl,ha,hc,hm,hb,hrow⟩:=hD.open
 unfold maxLen at hm
 obtain ⟨n,hn⟩:∃ n,n=D.n:=⟨_,rfl⟩
 have hn3:n≤3000:=by rw [hn];exact hv.n2
 have hn1:1≤n:=by rw [hn];exact hv.n1
 rw [← hn] at ha hc hb hrow hvr hs ⊢
 have HN:=Lib.hid hn;clear hn
 have HV:=Lib.hid hv;clear hv
 have HA:=Lib.hid ha;clear ha
 have HB:=Lib.hid hb;clear hb
 have HR:=Lib.hid hrow;clear hrow hD
 have HTB:=Lib.hid ht;clear ht
 have HB0:=Lib.hid hb0;clear hb0
 have hk0:=hs.c0
 have HS:=Lib.hid hs;clear hs
 have HVR:=Lib.hid hvr;clear hvr
 have HVS:=Lib.hid hvs;clear hvs
 have HFS:=Lib.hid hfs;clear hfs
 have HVC:=Lib.hid hvc;clear hvc
 have HCB:=Lib.hid hcb;clear hcb
 obtain rfl:=HA.out (by omega)
 go_enter Tryz.func88,Tryz.ntmps88
 go_wp2_with fail
 refine (semizero_any D.kind w).mono ?_
 rintro r w1 ⟨rfl,hb1⟩
 have hs1:Scl w1 cb D (.slice (some ⟨b,off,none⟩) n cp) star e:=by unfold Scl;rw [hb1.block cb HS.out.lt];exact HS.out
 have hf1:Fr (fun q=>q=cb) w w1:=Fr.of_below hb1
 have HS1:=Lib.hid hs1;clear hs1 hb1 HS
 have HF1:=Lib.hid hf1;clear hf1 hk0
 go_wp2_with fail
 go_loopw [6,18] (fun s i wr=>∃ q:Nat,q≤n∧i=.int .i64 (q:Int)∧s=.string (endC D v q (zeroF D.kind,e)).1∧Scl wr cb D (.slice (some ⟨b,off,none⟩) n cp) star (endC D v q (zeroF D.kind,e)).2∧Fr (fun q=>q=cb) w wr) (fun _ i _=>n - (intOf i).toNat)
 case atStart=>exact ⟨0,Nat.zero_le _,rfl,rfl,HS1.out,HF1.out⟩
 case round =>
  obtain ⟨q,hq,rfl,rfl,hsc,hfr⟩:=hrel
  clear HS1 HF1
  have HSC:=Lib.hid hsc;clear hsc
  have HFR:=Lib.hid hfr;clear hfr
  by_cases hlt:q < n
  ·have hqz:(q:Int) < (n:Int):=by omega
   have hqz0:(0:Int)≤(q:Int):=by omega
   have cv:=HFR.out.cell (HVR.out.cell hlt) (p:=⟨vb,q,none⟩) HVC.out
   have HBW:=Lib.hid (HB0.out.trans (HFR.out.below HB0.out.size (fun k hk=>by subst hk;exact HCB.out)))
   have hbb:=(HB.out (by omega)).1
   obtain ⟨k1,_,_,_,_,_,_⟩:=HR.out q hlt
   have c1:=(HBW.out.cell (p:=⟨b,off+q*2,none⟩) hbb).trans k1
   have m3:=HSC.out.c3
   clear k1
   obtain ⟨s0,hs0⟩:∃ s0,s0=endC D v q (zeroF D.kind,e):=⟨_,rfl⟩
   have hsm:smS s0.1:=by rw [hs0];exact endC_sm HVS.out q (show smS (zeroF D.kind) from Nat.le_trans (zeroF_size D.kind) (by omega))
   have hnx:endC D v (q+1) (zeroF D.kind,e)=if v q=⟨#[]⟩∨D.fin q=⟨#[]⟩ then s0 else plusC D.kind s0.1 (timesC D.kind (v q) (D.fin q) s0.2).1 (timesC D.kind (v q) (D.fin q) s0.2).2:=by
    rw [hs0];rfl
   rw [← hs0] at HSC
   rw [← hs0]
   have HSM:=Lib.hid hsm;clear hsm
   have HNX:=Lib.hid hnx;clear hnx hs0
   obtain ⟨vq,hvq⟩:∃ vq,vq=v q:=⟨_,rfl⟩
   obtain ⟨fq,hfq⟩:∃ fq,fq=D.fin q:=⟨_,rfl⟩
   rw [← hvq] at cv
   rw [← hfq] at c1
   rw [← hvq,← hfq] at HNX
   have hvsm:smS vq:=by rw [hvq];exact HVS.out q
   have hfsm:smS fq:=by rw [hfq];exact HFS.out q
   have HVSM:=Lib.hid hvsm;clear hvsm hvq
   have HFSM:=Lib.hid hfsm;clear hfsm hfq
   cases hE:(vq.toList == [])
   ·cases hF:(fq.toList == [])
    ·have he0:¬ (vq=⟨#[]⟩∨fq=⟨#[]⟩):=fun e=>by
      rcases e with e | e
      ·rw [e] at hE;simp at hE
      ·rw [e] at hF;simp at hF
     rw [if_neg he0] at HNX
     clear he0
     obtain ⟨tp,htp⟩:∃ tp,tp=timesC D.kind vq fq s0.2:=⟨_,rfl⟩
     obtain ⟨zp,hzp⟩:∃ zp,zp=plusC D.kind s0.1 tp.1 tp.2:=⟨_,rfl⟩
     rw [← htp,← hzp] at HNX
     have hTab1:Tab wr:=HTB.out.below HBW.out (Nat.le_refl _)
     have HTI:=Lib.hid (wtimes_any vq fq wr HSC.out HVSM.out HFSM.out hTab1)
     rw [← htp] at HTI
     have htsm:smS tp.1:=by rw [htp];exact timesC_sm HVSM.out
     have HTS:=Lib.hid htsm;clear htsm htp hTab1
     have HZP:=Lib.hid hzp;clear hzp
     go_wp2_with fail
     refine HTI.out.mono ?_
     rintro r w2 ⟨rfl,hsc2,hf2⟩
     have hf2':=HFR.out.trans hf2
     have hTab2:Tab w2:=HTB.out.below (HB0.out.trans (hf2'.below HB0.out.size (fun k hk=>by subst hk;exact HCB.out))) (Nat.le_refl _)
     have HPL:=Lib.hid (wplus_any s0.1 tp.1 w2 hsc2 HSM.out HTS.out hTab2)
     rw [← HZP.out] at HPL
     have HF2:=Lib.hid hf2';clear hf2' hf2 hsc2 hTab2 cv c1 m3
     go_wp2_with fail
     refine HPL.out.mono ?_
     rintro r w3 ⟨rfl,hsc3,hf3⟩
     have HF3:=Lib.hid (HF2.out.trans hf3);clear hf3
     have HSC3:=Lib.hid hsc3;clear hsc3
     go_wp2_with fail
     go_roundw
     case rel=>exact ⟨q+1,by omega,by go_num,by rw [HNX.out],by rw [HNX.out];exact HSC3.out,HF3.out⟩
     case measure=>simp [intOf];omega
    ·have he0:(vq=⟨#[]⟩∨fq=⟨#[]⟩):=.inr (empty_eq hF)
     rw [if_pos he0] at HNX
     clear he0
     go_wp2_with fail
     go_roundw
     case rel=>exact ⟨q+1,by omega,by go_num,by rw [HNX.out],by rw [HNX.out];exact HSC.out,HFR.out⟩
     case measure=>simp [intOf];omega
   ·have he0:(vq=⟨#[]⟩∨fq=⟨#[]⟩):=.inl (empty_eq hE)
    rw [if_pos he0] at HNX
    clear he0
    go_wp2_with fail
    go_roundw
    case rel=>exact ⟨q+1,by omega,by go_num,by rw [HNX.out],by rw [HNX.out];exact HSC.out,HFR.out⟩
    case measure=>simp [intOf];omega
  ·have hqn:q=n:=by omega
   have hgt:¬ ((q:Int) < (n:Int)):=by omega
   have HQN:=Lib.hid hqn;clear hqn
   obtain ⟨s0,hs0⟩:∃ s0,s0=endC D v q (zeroF D.kind,e):=⟨_,rfl⟩
   have hfin:finC D v e=if s0.2≠0 then (⟨#[]⟩,s0.2) else (s0.1,0):=by unfold finC;rw [← HN.out,← HQN.out,← hs0]
   rw [← hs0] at HSC
   rw [← hs0]
   have HFIN:=Lib.hid hfin;clear hfin hs0
   have m5:=HSC.out.c5
   by_cases he:s0.2=0
   ·rw [he] at m5
    have HE:=Lib.hid he;clear he
    go_wp2_with fail
    go_ret2
    exact ⟨by rw [HFIN.out,if_neg (by rw [HE.out];simp)];rfl,HFR.out⟩
   ·have hez:¬ ((s0.2:Int)=0):=by omega
    have HE:=Lib.hid he;clear he
    go_wp2_with fail
    go_quiet (fail)
    go_wp2_with fail
    go_ret2
    exact ⟨by rw [HFIN.out,if_pos HE.out];rfl,⟨HFR.out.os,HFR.out.tape,HFR.out.output,HFR.out.size,HFR.out.block⟩⟩
theorem enterWord:∀ args w,(callFunc 123 args).run Tryz.prog w=.ok (.enter 123 args) w:=fun args w=>by kernel_rfl
theorem word1_any (w:World) (s:Int):Calls Tryz.prog 123 #[.int .i64 s] w (fun r w'=>r=.returned (.bool (offI 500 s))∧w'=w):=by
 by_cases h1:s < 1
 ·go_enter Tryz.func123,Tryz.ntmps123
  go_wp2_with fail
  go_ret
  exact ⟨ret_bool (by simp [offI,h1]),rfl⟩
 ·have h1':decide (s < 1)=false:=by simp;omega
  go_enter Tryz.func123,Tryz.ntmps123
  go_wp2_with fail
  go_ret
  exact ⟨ret_bool (by simp [offI,h1']),rfl⟩
def isWord (n:Nat) (x:Nat→Int):Bool:=decide (n≤200) && wordB n x 500
theorem word_any {n:Nat} {v:Value} {x:Nat→Int} (w:World) (hx:Si none w v n x) (hn:(n:Int)≤9223372036854775807) :
  Calls Tryz.prog 77 #[v] w (fun r w'=>r=.returned (.bool (isWord n x))∧w'=w):=by
 have hct:=contains_any w hx hn (show TstF 123 #[] (offI 500) w from ⟨enterWord,fun s=>word1_any w s⟩)
 obtain ⟨a,cap,rfl⟩:=hx.shape
 have HC:=Lib.hid hct;clear hct hx
 by_cases h:(n:Int)≤200
 ·go_enter Tryz.func77,Tryz.ntmps77
  go_wp2_with fail
  refine HC.out.mono ?_
  rintro r w1 ⟨rfl,rfl⟩
  go_wp2_with fail
  go_ret
  exact ⟨ret_bool (by unfold isWord wordB;rw [show decide (n≤200)=true by simp;omega];simp),rfl⟩
 ·have h':decide ((n:Int)≤200)=false:=by simp;omega
  go_enter Tryz.func77,Tryz.ntmps77
  go_wp2_with fail
  go_ret
  exact ⟨ret_bool (by unfold isWord;rw [show decide (n≤200)=false by simp;omega];rfl),rfl⟩
theorem enterSilent:∀ args w,(callFunc 79 args).run Tryz.prog w=.ok (.enter 79 args) w:=fun args w=>by kernel_rfl
def silB (i o:Int):Bool:=decide (i=0) && decide (o=0)
theorem silent_any (w:World) (i o:Int) (s:ByteArray) (t:Int):Calls Tryz.prog 79 #[.agg #[.int .i64 i,.int .i64 o,.string s,.int .i64 t]] w (fun r w'=>r=.returned (.bool (silB i o))∧Below w.heap.size w w'):=by
 have hbel:=(Below.refl w.heap.size w).alloc (Nat.le_refl _) (.cells #[.int .i64 i,.int .i64 o,.string s,.int .i64 t] 83)
 have HB:=Lib.hid hbel;clear hbel
 by_cases h1:i=0
 ·subst h1
  go_enter Tryz.func79,Tryz.ntmps79
  go_wp2_with fail
  go_ret
  exact ⟨ret_bool (by by_cases h:o=0 <;> simp [silB,h]),HB.out⟩
 ·go_enter Tryz.func79,Tryz.ntmps79
  go_wp2_with fail
  go_ret
  exact ⟨ret_bool (by simp [silB,h1]),HB.out⟩
def BxI (w:World) (xb:Nat) (n:Nat) (x:Nat→Int):Prop:=∃ v,w.cell? ⟨xb,0,none⟩=some v∧Si none w v n x
theorem enterW2:∀ args w,(callFunc 85 args).run Tryz.prog w=.ok (.enter 85 args) w:=fun args w=>by kernel_rfl
theorem enterW3:∀ args w,(callFunc 86 args).run Tryz.prog w=.ok (.enter 86 args) w:=fun args w=>by kernel_rfl
theorem enterW4:∀ args w,(callFunc 87 args).run Tryz.prog w=.ok (.enter 87 args) w:=fun args w=>by kernel_rfl
def sel2 (y:Int) (i o:Int):Bool:=decide (i=0) && decide (o=y)
def sel3 (x:Int) (i o:Int):Bool:=decide (i=x) && decide (o=0)
def sel4 (x y:Int) (i o:Int):Bool:=decide (i=x) && decide (o=y)
set_option maxHeartbeats 1000000 in
theorem w2_any {yb jb n j:Nat} {y:Nat→Int} (w:World) (hy:BxI w yb n y) (hj:w.cell? ⟨jb,0,none⟩=some (.int .i64 (j:Int))) (hjn:j < n) (i o:Int) (s:ByteArray) (t:Int) :
  Calls Tryz.prog 85 #[.agg #[.int .i64 i,.int .i64 o,.string s,.int .i64 t],.pointer (some ⟨yb,0,none⟩),.pointer (some ⟨jb,0,none⟩)] w (fun r w'=>r=.returned (.bool (sel2 (y j) i o))∧Below w.heap.size w w'):=by
 obtain ⟨v,hv,hsi⟩:=hy
 obtain ⟨a,cap,b,off,rfl,ha,hc,hm,hb,hcell⟩:=hsi.open
 obtain rfl:=ha (by omega)
 unfold maxLen at hm
 have c0:=hcell j hjn
 clear hcell hsi
 have hjz:(j:Int) < (n:Int):=by omega
 have hjz0:(0:Int)≤(j:Int):=by omega
 obtain ⟨wm,hwm⟩:∃ wm,wm=w.alloc (.cells #[.int .i64 i,.int .i64 o,.string s,.int .i64 t] 83):=⟨_,rfl⟩
 obtain ⟨mb,hmb⟩:∃ mb,mb=w.heap.size:=⟨_,rfl⟩
 have hbel:=(Below.refl w.heap.size w).alloc (Nat.le_refl _) (.cells #[.int .i64 i,.int .i64 o,.string s,.int .i64 t] 83)
 have hg:w.grownBy wm none:=by rw [hwm];exact World.grownBy_alloc _ _ _
 rw [← hwm] at hbel
 have a0:wm.cell? ⟨mb,0,none⟩=some (.int .i64 i):=by rw [hwm,hmb];exact cell_new w _ _ 0 _ rfl
 have a1:wm.cell? ⟨mb,1,none⟩=some (.int .i64 o):=by rw [hwm,hmb];exact cell_new w _ _ 1 _ rfl
 have d0:=hg.cell hv (by simp)
 have d1:=hg.cell hj (by simp)
 have d2:=hg.cell c0 (by simp)
 have HB:=Lib.hid hbel;clear hbel hb ha hv hj c0 hg
 obtain ⟨yj,hyj⟩:∃ yj,yj=y j:=⟨_,rfl⟩
 rw [← hyj] at d2
 rw [← hyj]
 clear hyj
 by_cases h1:i=0
 ·subst h1
  go_enter Tryz.func85,Tryz.ntmps85
  go_wp2_with fail
  rw [← hwm,← hmb]
  have HWM:=Lib.hid hwm;clear hwm
  have HMB:=Lib.hid hmb;clear hmb
  go_quiet (fail)
  go_wp2_with fail
  go_ret
  exact ⟨ret_bool (by by_cases h:o=yj <;> simp [sel2,h]),below_drewN HB.out _⟩
 ·go_enter Tryz.func85,Tryz.ntmps85
  go_wp2_with fail
  rw [← hwm,← hmb]
  have HWM:=Lib.hid hwm;clear hwm
  have HMB:=Lib.hid hmb;clear hmb
  go_quiet (fail)
  go_wp2_with fail
  go_ret
  exact ⟨ret_bool (by simp [sel2,h1]),below_drewN HB.out _⟩
set_option maxHeartbeats 1000000 in
theorem w3_any {xb ib n j:Nat} {x:Nat→Int} (w:World) (hy:BxI w xb n x) (hj:w.cell? ⟨ib,0,none⟩=some (.int .i64 (j:Int))) (hjn:j < n) (i o:Int) (s:ByteArray) (t:Int) :
  Calls Tryz.prog 86 #[.agg #[.int .i64 i,.int .i64 o,.string s,.int .i64 t],.pointer (some ⟨xb,0,none⟩),.pointer (some ⟨ib,0,none⟩)] w (fun r w'=>r=.returned (.bool (sel3 (x j) i o))∧Below w.heap.size w w'):=by
 obtain ⟨v,hv,hsi⟩:=hy
 obtain ⟨a,cap,b,off,rfl,ha,hc,hm,hb,hcell⟩:=hsi.open
 obtain rfl:=ha (by omega)
 unfold maxLen at hm
 have c0:=hcell j hjn
 clear hcell hsi
 have hjz:(j:Int) < (n:Int):=by omega
 have hjz0:(0:Int)≤(j:Int):=by omega
 obtain ⟨wm,hwm⟩:∃ wm,wm=w.alloc (.cells #[.int .i64 i,.int .i64 o,.string s,.int .i64 t] 83):=⟨_,rfl⟩
 obtain ⟨mb,hmb⟩:∃ mb,mb=w.heap.size:=⟨_,rfl⟩
 have hbel:=(Below.refl w.heap.size w).alloc (Nat.le_refl _) (.cells #[.int .i64 i,.int .i64 o,.string s,.int .i64 t] 83)
 have hg:w.grownBy wm none:=by rw [hwm];exact World.grownBy_alloc _ _ _
 rw [← hwm] at hbel
 have a0:wm.cell? ⟨mb,0,none⟩=some (.int .i64 i):=by rw [hwm,hmb];exact cell_new w _ _ 0 _ rfl
 have a1:wm.cell? ⟨mb,1,none⟩=some (.int .i64 o):=by rw [hwm,hmb];exact cell_new w _ _ 1 _ rfl
 have d0:=hg.cell hv (by simp)
 have d1:=hg.cell hj (by simp)
 have d2:=hg.cell c0 (by simp)
 have HB:=Lib.hid hbel;clear hbel hb ha hv hj c0 hg
 obtain ⟨yj,hyj⟩:∃ yj,yj=x j:=⟨_,rfl⟩
 rw [← hyj] at d2
 rw [← hyj]
 clear hyj
 by_cases h1:i=yj
 ·subst h1
  go_enter Tryz.func86,Tryz.ntmps86
  go_wp2_with fail
  rw [← hwm,← hmb]
  have HWM:=Lib.hid hwm;clear hwm
  have HMB:=Lib.hid hmb;clear hmb
  go_quiet (fail)
  go_wp2_with fail
  go_ret
  exact ⟨ret_bool (by by_cases h:o=0 <;> simp [sel3,h]),below_drewN HB.out _⟩
 ·go_enter Tryz.func86,Tryz.ntmps86
  go_wp2_with fail
  rw [← hwm,← hmb]
  have HWM:=Lib.hid hwm;clear hwm
  have HMB:=Lib.hid hmb;clear hmb
  go_quiet (fail)
  go_wp2_with fail
  go_ret
  exact ⟨ret_bool (by simp [sel3,h1]),below_drewN HB.out _⟩
set_option maxHeartbeats 1000000 in
theorem w4_any {xb ib m k yb jb n j:Nat} {x y:Nat→Int} (w:World) (hx:BxI w xb m x) (hk:w.cell? ⟨ib,0,none⟩=some (.int .i64 (k:Int))) (hkm:k < m) (hy:BxI w yb n y) (hj:w.cell? ⟨jb,0,none⟩=some (.int .i64 (j:Int))) (hjn:j < n) (i o:Int) (s:ByteArray) (t:Int) :
  Calls Tryz.prog 87 #[.agg #[.int .i64 i,.int .i64 o,.string s,.int .i64 t],.pointer (some ⟨xb,0,none⟩),.pointer (some ⟨ib,0,none⟩),.pointer (some ⟨yb,0,none⟩),.pointer (some ⟨jb,0,none⟩)] w (fun r w'=>r=.returned (.bool (sel4 (x k) (y j) i o))∧Below w.heap.size w w'):=by
 obtain ⟨v',hv',hsi'⟩:=hx
 obtain ⟨a',cap',b',off',rfl,ha',hc',hm',hb',hcell'⟩:=hsi'.open
 obtain rfl:=ha' (by omega)
 have c0':=hcell' k hkm
 unfold maxLen at hm'
 have hkz:(k:Int) < (m:Int):=by omega
 have hkz0:(0:Int)≤(k:Int):=by omega
 clear hcell' hsi'
 obtain ⟨v,hv,hsi⟩:=hy
 obtain ⟨a,cap,b,off,rfl,ha,hc,hm,hb,hcell⟩:=hsi.open
 obtain rfl:=ha (by omega)
 unfold maxLen at hm
 have c0:=hcell j hjn
 clear hcell hsi
 have hjz:(j:Int) < (n:Int):=by omega
 have hjz0:(0:Int)≤(j:Int):=by omega
 obtain ⟨wm,hwm⟩:∃ wm,wm=w.alloc (.cells #[.int .i64 i,.int .i64 o,.string s,.int .i64 t] 83):=⟨_,rfl⟩
 obtain ⟨mb,hmb⟩:∃ mb,mb=w.heap.size:=⟨_,rfl⟩
 have hbel:=(Below.refl w.heap.size w).alloc (Nat.le_refl _) (.cells #[.int .i64 i,.int .i64 o,.string s,.int .i64 t] 83)
 have hg:w.grownBy wm none:=by rw [hwm];exact World.grownBy_alloc _ _ _
 rw [← hwm] at hbel
 have a0:wm.cell? ⟨mb,0,none⟩=some (.int .i64 i):=by rw [hwm,hmb];exact cell_new w _ _ 0 _ rfl
 have a1:wm.cell? ⟨mb,1,none⟩=some (.int .i64 o):=by rw [hwm,hmb];exact cell_new w _ _ 1 _ rfl
 have d0:=hg.cell hv (by simp)
 have d1:=hg.cell hj (by simp)
 have d2:=hg.cell c0 (by simp)
 have d0':=hg.cell hv' (by simp)
 have d1':=hg.cell hk (by simp)
 have d2':=hg.cell c0' (by simp)
 have HB:=Lib.hid hbel;clear hbel hb ha hv hj c0 hg hb' ha' hv' hk c0'
 obtain ⟨xk,hxk⟩:∃ xk,xk=x k:=⟨_,rfl⟩
 rw [← hxk] at d2'
 rw [← hxk]
 clear hxk
 obtain ⟨yj,hyj⟩:∃ yj,yj=y j:=⟨_,rfl⟩
 rw [← hyj] at d2
 rw [← hyj]
 clear hyj
 by_cases h1:i=xk
 ·subst h1
  go_enter Tryz.func87,Tryz.ntmps87
  go_wp2_with fail
  rw [← hwm,← hmb]
  have HWM:=Lib.hid hwm;clear hwm
  have HMB:=Lib.hid hmb;clear hmb
  go_quiet (fail)
  go_wp2_with fail
  go_ret
  exact ⟨ret_bool (by by_cases h:o=yj <;> simp [sel4,h]),below_drewN HB.out _⟩
 ·go_enter Tryz.func87,Tryz.ntmps87
  go_wp2_with fail
  rw [← hwm,← hmb]
  have HWM:=Lib.hid hwm;clear hwm
  have HMB:=Lib.hid hmb;clear hmb
  go_quiet (fail)
  go_wp2_with fail
  go_ret
  exact ⟨ret_bool (by simp [sel4,h1]),below_drewN HB.out _⟩
end Go.Proofs.YtjekapjbigfkbaaGreatDoor

namespace Go.Proofs.YtjekapjbigfkbaaGreatDoor
open Go Go.RowKit Go.Deep
set_option maxRecDepth 100000
set_option linter.unusedSimpArgs false
set_option maxHeartbeats 4000000 in
theorem rword_any {n:Nat} {v:Value} {x:Nat→Int} (w:World) (hx:Si none w v n x) (hn:(n:Int)≤9223372036854775807) :
  Calls Tryz.prog 20 #[v] w (fun r w'=>r=.returned (.bool (isWord n x))∧w'=w):=by
 obtain ⟨a,cap,b,off,rfl,ha,hc,hm,hb,hcell⟩:=hx.open
 unfold maxLen at hm
 have HA:=Lib.hid ha;clear ha
 have HX:=Lib.hid hcell;clear hcell hx hb
 by_cases h2:(200:Int) < (n:Int)
 ·have hw:isWord n x=false:=by unfold isWord;rw [show decide (n≤200)=false by simp;omega];rfl
  rw [hw]
  clear hw
  go_enter Tryz.func20,Tryz.ntmps20
  go_wp2_with fail
  go_ret
  exact ⟨rfl,rfl⟩
 ·have h2':decide ((200:Int) < (n:Int))=false:=by simp;omega
  have hn2:n≤200:=by omega
  have hw:isWord n x=wordB n x 500:=by unfold isWord;rw [show decide (n≤200)=true by simp;omega];simp
  rw [hw]
  clear hw h2
  go_enter Tryz.func20,Tryz.ntmps20
  go_wp2_with fail
  go_loop [3] (fun i=>∃ q:Nat,q≤n∧i=.int .i64 (q:Int)∧∀ j,j < q→1≤x j∧x j≤500) (fun i=>n - (intOf i).toNat)
  case atStart=>exact ⟨0,Nat.zero_le _,rfl,fun j hj=>by omega⟩
  case round =>
   obtain ⟨q,hq,rfl,hok⟩:=hrel
   have HOK:=Lib.hid hok;clear hok
   by_cases hlt:q < n
   ·have hqz:(q:Int) < (n:Int):=by omega
    have hqz0:(0:Int)≤(q:Int):=by omega
    obtain rfl:=HA.out (by omega)
    have c0:=HX.out q hlt
    obtain ⟨xq,hxq⟩:∃ xq,xq=x q:=⟨_,rfl⟩
    rw [← hxq] at c0
    have HXQ:=Lib.hid hxq;clear hxq
    by_cases h1:xq < 1
    ·have hno:wordB n x 500=false:=wordB_not.2 fun h=>by have:=(h q hlt).1;rw [← HXQ.out] at this;omega
     have HNO:=Lib.hid hno;clear hno
     go_wp2_with fail
     go_ret
     exact ⟨ret_bool HNO.out.symm,rfl⟩
    ·have h1':decide (xq < 1)=false:=by simp;omega
     by_cases h5:(500:Int) < xq
     ·have hno:wordB n x 500=false:=wordB_not.2 fun h=>by have:=(h q hlt).2;rw [← HXQ.out] at this;omega
      have HNO:=Lib.hid hno;clear hno
      go_wp2_with fail
      go_ret
      exact ⟨ret_bool HNO.out.symm,rfl⟩
     ·have h5':decide ((500:Int) < xq)=false:=by simp;omega
      go_wp2_with fail
      go_round
      case rel=>exact ⟨q+1,by omega,by go_num,fun j hj=>by
       by_cases e:j=q
       ·subst e;rw [← HXQ.out];omega
       ·exact HOK.out j (by omega)⟩
      case measure=>simp [intOf];omega
   ·have hqn:q=n:=by omega
    have hgt:¬ ((q:Int) < (n:Int)):=by omega
    have hyes:wordB n x 500=true:=wordB_iff.2 fun i hi=>HOK.out i (by rw [hqn];exact hi)
    have HY:=Lib.hid hyes;clear hyes hqn
    go_wp2_with fail
    go_ret
    exact ⟨ret_bool HY.out.symm,rfl⟩
def shortB (n:Nat) (x:Nat→Int):Bool:=decide (n≤6) && wordB n x 500
theorem eshort_any {n:Nat} {v:Value} {x:Nat→Int} (w:World) (hx:Si none w v n x) (hn:(n:Int)≤9223372036854775807) :
  Calls Tryz.prog 41 #[v] w (fun r w'=>r=.returned (.bool (shortB n x))∧w'=w):=by
 have HW:=Lib.hid (rword_any w hx hn)
 obtain ⟨a,cap,rfl⟩:=hx.shape
 clear hx
 by_cases h6:(n:Int)≤6
 ·have hs:shortB n x=isWord n x:=by unfold shortB isWord;rw [show decide (n≤6)=true by simp;omega,show decide (n≤200)=true by simp;omega]
  rw [hs]
  clear hs
  go_enter Tryz.func41,Tryz.ntmps41
  go_wp2_with fail
  refine HW.out.mono ?_
  rintro r w1 ⟨rfl,rfl⟩
  go_wp2_with fail
  go_ret
  exact ⟨rfl,rfl⟩
 ·have h6':decide ((n:Int)≤6)=false:=by simp;omega
  have hs:shortB n x=false:=by unfold shortB;rw [show decide (n≤6)=false by simp;omega];rfl
  rw [hs]
  clear hs
  go_enter Tryz.func41,Tryz.ntmps41
  go_wp2_with fail
  go_ret
  exact ⟨rfl,rfl⟩
theorem rcost_any (s:ByteArray) (w:World) (hs:s.size≤9223372036854775807):Calls Tryz.prog 42 #[.string s] w (fun r w'=>r=.returned (.bool (costB s))∧Below w.heap.size w w'):=by
 have hv:=svalid_any s w hs
 cases hp:prs s with
 | none =>
  rw [hp] at hv
  have HV:=Lib.hid hv;clear hv
  have HP:=Lib.hid hp;clear hp
  go_enter Tryz.func42,Tryz.ntmps42
  go_wp2_with fail
  refine HV.out.mono ?_
  rintro r w1 ⟨rfl,hb⟩
  have HB:=Lib.hid hb;clear hb
  go_wp2_with fail
  go_ret
  exact ⟨ret_bool (by unfold costB;rw [HP.out]),HB.out⟩
 | some q =>
  rw [hp] at hv
  have hpz:prs ⟨#[48]⟩=some 0:=by decide +kernel
  have hcz:qcmpF s ⟨#[48]⟩=cmpQ q 0:=by unfold qcmpF;rw [hp,hpz]
  have hc:=fun w1=>scmp_any s ⟨#[48]⟩ w1 hs (by decide)
  rw [hcz] at hc
  have HC:=Lib.hid hc;clear hc hcz hpz
  have HV:=Lib.hid hv;clear hv
  have HP:=Lib.hid hp;clear hp
  go_enter Tryz.func42,Tryz.ntmps42
  go_wp2_with fail
  refine HV.out.mono ?_
  rintro r w1 ⟨rfl,hb⟩
  have hc1:=HC.out w1
  have HB:=Lib.hid hb;clear hb
  have HC1:=Lib.hid hc1;clear hc1 HC
  go_wp2_with fail
  refine HC1.out.mono ?_
  rintro r w2 ⟨rfl,hb2⟩
  have HB2:=Lib.hid (HB.out.trans (hb2.mono HB.out.size));clear hb2
  go_wp2_with fail
  go_ret
  exact ⟨ret_bool (by
   unfold costB;rw [HP.out]
   rcases cmpQ_cases q 0 with ⟨h,e⟩ | ⟨h,e⟩ | ⟨h,e⟩ <;> rw [e]
   ·simp [Rat.not_le.2 h]
   ·subst h;simp
   ·simp [Rat.le_of_lt h]),HB2.out⟩
set_option maxHeartbeats 4000000 in
theorem wcmp_any {n m:Nat} {v v':Value} {x y:Nat→Int} (w:World) (hx:Si none w v n x) (hy:Si none w v' m y) (hn:(n:Int)≤9223372036854775806) (hm':(m:Int)≤9223372036854775806) :
  Calls Tryz.prog 36 #[v,v'] w (fun r w'=>(∃ c:Int,r=.returned (.int .i64 c)∧(c=0↔eqB n m x y=true))∧Below w.heap.size w w'):=by
 obtain ⟨a,cap,b,off,rfl,ha,hc,hm,hb,hcell⟩:=hx.open
 obtain ⟨a',cap',b',off',rfl,ha',hc',hm'',hb',hcell'⟩:=hy.open
 unfold maxLen at hm hm''
 clear hx hy
 have HA:=Lib.hid ha;clear ha
 have HB:=Lib.hid hb;clear hb
 have HX:=Lib.hid hcell;clear hcell
 have HA':=Lib.hid ha';clear ha'
 have HB':=Lib.hid hb';clear hb'
 have HX':=Lib.hid hcell';clear hcell'
 by_cases hnm:n=m
 ·subst hnm
  go_enter Tryz.func36,Tryz.ntmps36
  go_wp2_with fail
  go_loopw [5] (fun i wr=>∃ q:Nat,q≤n∧i=.int .i64 (q:Int)∧(∀ j,j < q→x j=y j)∧Below w.heap.size w wr) (fun i _=>n - (intOf i).toNat)
  case atStart=>exact ⟨0,Nat.zero_le _,rfl,fun j hj=>by omega,Below.refl _ _⟩
  case round =>
   obtain ⟨q,hq,rfl,hno,hbw⟩:=hrel
   have HBW:=Lib.hid hbw;clear hbw
   have HNO:=Lib.hid hno;clear hno
   by_cases hlt:q < n
   ·have hqz:(q:Int) < (n:Int):=by omega
    have hqz0:(0:Int)≤(q:Int):=by omega
    obtain rfl:=HA.out (by omega)
    obtain rfl:=HA'.out (by omega)
    have c0:=(HBW.out.cell (p:=⟨b,off+q,none⟩) (HB.out (by omega)).1).trans (HX.out q hlt)
    have c1:=(HBW.out.cell (p:=⟨b',off'+q,none⟩) (HB'.out (by omega)).1).trans (HX'.out q hlt)
    obtain ⟨xq,hxq⟩:∃ xq,xq=x q:=⟨_,rfl⟩
    obtain ⟨yq,hyq⟩:∃ yq,yq=y q:=⟨_,rfl⟩
    rw [← hxq] at c0
    rw [← hyq] at c1
    have HXQ:=Lib.hid hxq;clear hxq
    have HYQ:=Lib.hid hyq;clear hyq
    by_cases hl:xq < yq
    ·have hno:¬ eqB n n x y=true:=fun h=>by have:=(eqB_iff.1 h).2 q hlt;rw [← HXQ.out,← HYQ.out] at this;omega
     have HN:=Lib.hid hno;clear hno
     go_wp2_with fail
     go_quiet (fail)
     go_wp2_with fail
     go_ret
     exact ⟨⟨-1,rfl,⟨fun h=>(by cases h),fun h=>absurd h HN.out⟩⟩,below_drewN HBW.out _⟩
    ·have hl':decide (xq < yq)=false:=by simp;omega
     by_cases hg:yq < xq
     ·have hno:¬ eqB n n x y=true:=fun h=>by have:=(eqB_iff.1 h).2 q hlt;rw [← HXQ.out,← HYQ.out] at this;omega
      have HN:=Lib.hid hno;clear hno
      have HL:=Lib.hid hl;clear hl
      go_wp2_with fail
      go_quiet (fail)
      have c0':(wr.drewN nq).cell? ⟨b,off+q,none⟩=some (.int .i64 xq):=c0
      have c1':(wr.drewN nq).cell? ⟨b',off'+q,none⟩=some (.int .i64 yq):=c1
      go_wp2_with fail
      go_quiet (fail)
      go_wp2_with fail
      go_ret
      exact ⟨⟨1,rfl,⟨fun h=>(by cases h),fun h=>absurd h HN.out⟩⟩,below_drewN (below_drewN HBW.out _) _⟩
     ·have hg':decide (yq < xq)=false:=by simp;omega
      have he:xq=yq:=by omega
      have HE:=Lib.hid he;clear he hl hg
      go_wp2_with fail
      go_quiet (fail)
      have c0':(wr.drewN nq).cell? ⟨b,off+q,none⟩=some (.int .i64 xq):=c0
      have c1':(wr.drewN nq).cell? ⟨b',off'+q,none⟩=some (.int .i64 yq):=c1
      go_wp2_with fail
      go_quiet (fail)
      go_wp2_with fail
      go_roundw
      case rel =>
       refine ⟨q+1,by omega,by go_num,fun j hj=>?_,below_drewN HBW.out _⟩
       by_cases e:j=q
       ·subst e;rw [← HXQ.out,← HYQ.out];exact HE.out
       ·exact HNO.out j (by omega)
      case measure=>simp [intOf];omega
   ·have hqn:q=n:=by omega
    have hgt:¬ ((q:Int) < (n:Int)):=by omega
    have HQ:=Lib.hid hqn;clear hqn
    go_wp2_with fail
    go_ret
    exact ⟨⟨0,rfl,⟨fun _=>eqB_iff.2 ⟨rfl,fun i hi=>HNO.out i (by rw [HQ.out];exact hi)⟩,fun _=>rfl⟩⟩,HBW.out⟩
 ·have hne:¬ (n:Int)=(m:Int):=by omega
  have hno:¬ eqB n m x y=true:=fun h=>hnm (eqB_iff.1 h).1
  have HN:=Lib.hid hno;clear hno
  by_cases hl:(n:Int) < (m:Int)
  ·go_enter Tryz.func36,Tryz.ntmps36
   go_wp2_with fail
   go_ret
   exact ⟨⟨-1,rfl,⟨fun h=>(by cases h),fun h=>absurd h HN.out⟩⟩,Below.refl _ _⟩
  ·have hl':decide ((n:Int) < (m:Int))=false:=by simp;omega
   go_enter Tryz.func36,Tryz.ntmps36
   go_wp2_with fail
   go_ret
   exact ⟨⟨1,rfl,⟨fun h=>(by cases h),fun h=>absurd h HN.out⟩⟩,Below.refl _ _⟩
set_option maxHeartbeats 8000000 in
theorem rmvalid_any {M:EM} {v:Value} (w:World) (hM:Em none w v M) (hs:ESz M):Calls Tryz.prog 14 #[v] w (EvE M w):=by
 obtain ⟨sv,rfl,hS⟩:=hM
 obtain ⟨a,cap,b,off,A,A',C,C',rfl,ha,hc,hm,hb,hrow⟩:=hS.open
 unfold maxLen at hm
 clear hS
 have hbox:=BoxE.new w M (.slice a M.n cap)
 have hbel:Below w.heap.size w (w.alloc (.cells #[.slice a M.n cap,.int .i64 M.most] 24)):=(Below.refl _ _).alloc (Nat.le_refl _) _
 have hnn:=hs.n
 have hm0:=hs.m0
 have hm1:=hs.m1
 have HSZ:=Lib.hid hs;clear hs
 have HA:=Lib.hid ha;clear ha
 have HB:=Lib.hid hb;clear hb
 have HR:=Lib.hid hrow;clear hrow
 have m0:=hbox.c0
 have m1:=hbox.c1
 have HBX:=Lib.hid hbox;clear hbox
 have HBE:=Lib.hid hbel;clear hbel
 go_enter Tryz.func14,Tryz.ntmps14
 go_wp2_with fail
 all_goals first
  | (go_ret;exact ⟨HBE.out,.inr ⟨fun v=>by have h1:=v.n4;have h2:=v.m0;have h3:=v.m6;omega,rfl⟩⟩)
  | skip
 have hpre:M.n≤400∧0≤M.most∧M.most≤6:=by omega
 have HPRE:=Lib.hid hpre;clear hpre
 obtain ⟨wm,hwm⟩:∃ wm,wm=w.alloc (.cells #[.slice a M.n cap,.int .i64 M.most] 24):=⟨_,rfl⟩
 obtain ⟨mb,hmb⟩:∃ mb,mb=w.heap.size:=⟨_,rfl⟩
 rw [← hwm] at HBE
 rw [← hwm,← hmb] at HBX
 rw [← hwm,← hmb]
 clear hwm hmb m0 m1
 go_loopw [3] (fun i wr=>∃ q:Nat,q≤M.n∧i=.int .i64 (q:Int)∧(∀ l,l < q→EdOk (M.e l))∧Below w.heap.size w wr∧BoxE wr mb M (.slice a M.n cap)) (fun i _=>M.n - (intOf i).toNat)
 case atStart=>exact ⟨0,Nat.zero_le _,rfl,fun l hl=>by omega,HBE.out,HBX.out⟩
 case round =>
  obtain ⟨q,hq,rfl,hok,hbw,hbx⟩:=hrel
  clear HBE HBX
  have HOK:=Lib.hid hok;clear hok
  have HBW:=Lib.hid hbw;clear hbw
  have HBX:=Lib.hid hbx;clear hbx
  have m0:=HBX.out.c0
  by_cases hlt:q < M.n
  ·have hqz:(q:Int) < (M.n:Int):=by omega
   have hqz0:(0:Int)≤(q:Int):=by omega
   obtain rfl:=HA.out (by omega)
   have hbb:=(HB.out (by omega)).1
   obtain ⟨k1,k2,k3,k4,k5⟩:=HR.out q hlt
   have c0:=(HBW.out.cell (p:=⟨b,off+q*3,none⟩) hbb).trans k1
   have c1:=(HBW.out.cell (p:=⟨b,off+q*3+1,none⟩) hbb).trans k2
   have c2:=(HBW.out.cell (p:=⟨b,off+q*3+2,none⟩) hbb).trans k3
   clear k1 k2 k3
   have hnf:=HSZ.out.f q
   have hnt:=HSZ.out.t q
   obtain ⟨d,hd⟩:∃ d,d=M.e q:=⟨_,rfl⟩
   rw [← hd] at c0 c1 c2 k4 k5 hnf hnt
   obtain ⟨nf,hnfe⟩:∃ nf,nf=d.nf:=⟨_,rfl⟩
   obtain ⟨nt,hnte⟩:∃ nt,nt=d.nt:=⟨_,rfl⟩
   rw [← hnfe] at c0 k4 hnf
   rw [← hnte] at c1 k5 hnt
   have hno:¬ EdOk d→¬ VE M:=fun h v=>h (by rw [hd];exact v.ok q hlt)
   have HNO:=Lib.hid hno;clear hno
   have HK4:=Lib.hid k4;clear k4
   have HK5:=Lib.hid k5;clear k5
   have HD:=Lib.hid hd;clear hd
   have HNF:=Lib.hid hnfe;clear hnfe
   have HNT:=Lib.hid hnte;clear hnte
   obtain ⟨wa,hwa⟩:∃ wa,wa=wr.alloc (.cells #[.slice (A q) nf (C q),.slice (A' q) nt (C' q),.string d.w] 50):=⟨_,rfl⟩
   have hfa:Fr (fun _=>False) wr wa:=by rw [hwa];exact Fr.alloc _ _
   have hba:=HBW.out.alloc HBW.out.size (.cells #[.slice (A q) nf (C q),.slice (A' q) nt (C' q),.string d.w] 50)
   rw [← hwa] at hba
   obtain ⟨ab,hab⟩:∃ ab,ab=wr.heap.size:=⟨_,rfl⟩
   have hblk:wa.heap[ab]?=some (.cells #[.slice (A q) nf (C q),.slice (A' q) nt (C' q),.string d.w] 50 (0,0)):=by rw [hwa,hab];exact heap_alloc_new wr _
   have HBA:=Lib.hid hba;clear hba
   have HBLK:=Lib.hid hblk;clear hblk
   have HBXA:=Lib.hid (show BoxE wa mb M (.slice (some ⟨b,off,none⟩) M.n cap) from (hfa.block mb HBX.out.lt (fun e=>e)).trans HBX.out);clear hfa HBX
   have HS1:=Lib.hid (eshort_any wa (HK4.out.kept (gb_below HBA.out none)) (by omega))
   have HS2:=Lib.hid (eshort_any wa (HK5.out.kept (gb_below HBA.out none)) (by omega))
   have e1:wa.cell? ⟨ab,1,none⟩=some (.slice (A' q) nt (C' q)):=by simp [World.cell?,HBLK.out]
   have e0:wa.cell? ⟨ab,0,none⟩=some (.slice (A q) nf (C q)):=by simp [World.cell?,HBLK.out]
   have e2:wa.cell? ⟨ab,2,none⟩=some (.string d.w):=by simp [World.cell?,HBLK.out]
   go_wp2_with fail
   rw [← hwa,← hab]
   clear hwa hab c0 c1 c2 m0
   refine HS1.out.mono ?_
   rintro r w1 ⟨rfl,rfl⟩
   cases hw1:shortB nf d.f
   ·have hn:¬ (d.nf≤6∧wordI d.nf d.f 500):=fun h=>by
     unfold shortB at hw1;rw [HNF.out,wordB_iff.2 h.2] at hw1;simp at hw1;omega
    have HN:=Lib.hid hn;clear hn hw1
    go_wp2_with fail
    go_ret
    exact ⟨HBA.out,.inr ⟨HNO.out (fun h=>HN.out ⟨h.f6,h.fw⟩),rfl⟩⟩
   ·have hs1:d.nf≤6∧wordI d.nf d.f 500:=by
     unfold shortB at hw1;rw [HNF.out] at hw1;simp at hw1;exact ⟨hw1.1,wordB_iff.1 hw1.2⟩
    have H1:=Lib.hid hs1;clear hs1 hw1
    go_wp2_with fail
    refine HS2.out.mono ?_
    rintro r w2 ⟨rfl,rfl⟩
    cases hw2:shortB nt d.t
    ·have hn:¬ (d.nt≤6∧wordI d.nt d.t 500):=fun h=>by
      unfold shortB at hw2;rw [HNT.out,wordB_iff.2 h.2] at hw2;simp at hw2;omega
     have HN:=Lib.hid hn;clear hn hw2
     go_wp2_with fail
     go_ret
     exact ⟨HBA.out,.inr ⟨HNO.out (fun h=>HN.out ⟨h.t6,h.tw⟩),rfl⟩⟩
    ·have hs2:d.nt≤6∧wordI d.nt d.t 500:=by
      unfold shortB at hw2;rw [HNT.out] at hw2;simp at hw2;exact ⟨hw2.1,wordB_iff.1 hw2.2⟩
     have H2:=Lib.hid hs2;clear hs2 hw2
     have hw:IntKind.i64.wrap ((nf:Int)+(nt:Int))=(nf:Int)+(nt:Int):=by rw [IntKind.wrap_i64];have h1:=H1.out.1;have h2:=H2.out.1;rw [← HNF.out] at h1;rw [← HNT.out] at h2;omega
     by_cases h00:(nf:Int)+(nt:Int)=0
     ·have hn:¬ (0 < d.nf+d.nt):=by rw [← HNF.out,← HNT.out];omega
      have HN:=Lib.hid hn;clear hn
      go_wp2_with fail
      go_ret
      exact ⟨HBA.out,.inr ⟨HNO.out (fun h=>HN.out h.pos),rfl⟩⟩
     ·have hps:0 < d.nf+d.nt:=by rw [← HNF.out,← HNT.out];omega
      have HPS:=Lib.hid hps;clear hps
      have HS3:=Lib.hid (rcost_any d.w w2 (by rw [HD.out];have:=HSZ.out.w q;omega))
      go_wp2_with fail
      refine HS3.out.mono ?_
      rintro r w3 ⟨rfl,hb3⟩
      have HB3:=Lib.hid (HBA.out.trans (hb3.mono HBA.out.size))
      have HBX3:=Lib.hid (show BoxE w3 mb M (.slice (some ⟨b,off,none⟩) M.n cap) from (hb3.block mb HBXA.out.lt).trans HBXA.out);clear hb3
      cases hw3:costB d.w
      ·have hn:¬ costOk d.w:=fun h=>by rw [costB_iff.2 h] at hw3;cases hw3
       have HN:=Lib.hid hn;clear hn hw3
       go_wp2_with fail
       go_ret
       exact ⟨HB3.out,.inr ⟨HNO.out (fun h=>HN.out h.wt),rfl⟩⟩
      ·have hn:=costB_iff.1 hw3
       have HW3:=Lib.hid hn;clear hn hw3
       go_wp2_with fail
       go_roundw
       case rel =>
        refine ⟨q+1,by omega,by go_num,fun l hl=>?_,HB3.out,HBX3.out⟩
        by_cases e:l=q
        ·subst e
         rw [← HD.out]
         exact ⟨H1.out.1,H2.out.1,HPS.out,H1.out.2,H2.out.2,HW3.out⟩
        ·exact HOK.out l (by omega)
       case measure=>simp [intOf];omega
  ·have hqn:q=M.n:=by omega
   have hgt:¬ ((q:Int) < (M.n:Int)):=by omega
   have HQ:=Lib.hid hqn;clear hqn
   go_wp2_with fail
   go_ret
   exact ⟨HBW.out,.inl ⟨⟨HPRE.out.1,HPRE.out.2.1,HPRE.out.2.2,fun i hi=>HOK.out i (by rw [HQ.out];exact hi)⟩,rfl⟩⟩
end Go.Proofs.YtjekapjbigfkbaaGreatDoor
