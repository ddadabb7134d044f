/- Parts of a proof: C7 WgL WgS. -/
import Derived.Test.YtjekapjbigfkbaaGreatDoorQ16
import Derived.Deep.QuietTactic
import Derived.BigQuiet
namespace Go.Proofs.YtjekapjbigfkbaaGreatDoor
open Go Go.RowKit Go.Deep
set_option maxRecDepth 100000
structure MD where
 kind:Int
 start:Int
 lead:ByteArray
 n:Nat
 fin:Nat→ByteArray
 na:Nat→Nat
 ain:Nat→Nat→Int
 aout:Nat→Nat→Int
 aw:Nat→Nat→ByteArray
 ato:Nat→Nat→Int
def ArS (z:Option Nat) (w:World) (v:Value) (D:MD) (i:Nat):Prop :=
 (D.na i=0∧∃ a cap,v=.slice a 0 cap∧cap≤maxLen)∨∃ b off cap,v=.slice (some ⟨b,off,none⟩) (D.na i) cap∧(b < w.heap.size∧some b≠z)∧D.na i≤cap∧cap≤maxLen∧∀ k,k < D.na i →
  w.cell? ⟨b,off+k*4,none⟩=some (.int .i64 (D.ain i k))∧w.cell? ⟨b,off+k*4+1,none⟩=some (.int .i64 (D.aout i k))∧w.cell? ⟨b,off+k*4+2,none⟩=some (.string (D.aw i k))∧w.cell? ⟨b,off+k*4+3,none⟩=some (.int .i64 (D.ato i k))
def StS (z:Option Nat) (w:World) (v:Value) (D:MD):Prop :=
 (D.n=0∧∃ a cap,v=.slice a 0 cap∧cap≤maxLen)∨∃ b off cap,∃ A:Nat→Value,v=.slice (some ⟨b,off,none⟩) D.n cap∧(b < w.heap.size∧some b≠z)∧D.n≤cap∧cap≤maxLen∧∀ i,i < D.n →
  w.cell? ⟨b,off+i*2,none⟩=some (.string (D.fin i))∧w.cell? ⟨b,off+i*2+1,none⟩=some (A i)∧ArS z w (A i) D i
theorem ArS.kept {z:Option Nat} {w w':World} {v:Value} {D:MD} {i:Nat} (h:ArS z w v D i) (hg:w.grownBy w' z):ArS z w' v D i:=by
 rcases h with h | ⟨b,off,cap,hv,h1,h2,h3,h4⟩
 ·exact .inl h
 ·refine .inr ⟨b,off,cap,hv,⟨Nat.lt_of_lt_of_le h1.1 hg.size,h1.2⟩,h2,h3,fun k hk=>?_⟩
  obtain ⟨c1,c2,c3,c4⟩:=h4 k hk
  exact ⟨hg.cell c1 h1.2,hg.cell c2 h1.2,hg.cell c3 h1.2,hg.cell c4 h1.2⟩
theorem StS.kept {z:Option Nat} {w w':World} {v:Value} {D:MD} (h:StS z w v D) (hg:w.grownBy w' z):StS z w' v D:=by
 rcases h with h | ⟨b,off,cap,A,hv,h1,h2,h3,h4⟩
 ·exact .inl h
 ·refine .inr ⟨b,off,cap,A,hv,⟨Nat.lt_of_lt_of_le h1.1 hg.size,h1.2⟩,h2,h3,fun i hi=>?_⟩
  obtain ⟨c1,c2,c3⟩:=h4 i hi
  exact ⟨hg.cell c1 h1.2,hg.cell c2 h1.2,c3.kept hg⟩
theorem ArS.far {k:Nat} {z:Option Nat} {w:World} {v:Value} {D:MD} {i:Nat} (h:ArS z w v D i) (hk:w.heap.size≤k):ArS (some k) w v D i:=by
 rcases h with h | ⟨b,off,cap,hv,h1,h2⟩
 ·exact .inl h
 ·exact .inr ⟨b,off,cap,hv,⟨h1.1,by simp;omega⟩,h2⟩
theorem StS.far {k:Nat} {z:Option Nat} {w:World} {v:Value} {D:MD} (h:StS z w v D) (hk:w.heap.size≤k):StS (some k) w v D:=by
 rcases h with h | ⟨b,off,cap,A,hv,h1,h2,h3,h4⟩
 ·exact .inl h
 ·exact .inr ⟨b,off,cap,A,hv,⟨h1.1,by simp;omega⟩,h2,h3,fun i hi=>⟨(h4 i hi).1,(h4 i hi).2.1,(h4 i hi).2.2.far hk⟩⟩
theorem StS.open {z:Option Nat} {w:World} {v:Value} {D:MD} (h:StS z w v D):∃ a cap b off,∃ (A:Nat→Option Addr) (C B O:Nat→Nat),v=.slice a D.n cap∧(0 < D.n→a=some ⟨b,off,none⟩)∧D.n≤cap∧cap≤maxLen∧(0 < D.n→b < w.heap.size∧some b≠z) ∧
  ∀ i,i < D.n→w.cell? ⟨b,off+i*2,none⟩=some (.string (D.fin i))∧w.cell? ⟨b,off+i*2+1,none⟩=some (.slice (A i) (D.na i) (C i))∧D.na i≤C i∧C i≤maxLen∧(0 < D.na i→A i=some ⟨B i,O i,none⟩)∧(0 < D.na i→B i < w.heap.size∧some (B i)≠z) ∧
   ∀ k,k < D.na i→w.cell? ⟨B i,O i+k*4,none⟩=some (.int .i64 (D.ain i k))∧w.cell? ⟨B i,O i+k*4+1,none⟩=some (.int .i64 (D.aout i k))∧w.cell? ⟨B i,O i+k*4+2,none⟩=some (.string (D.aw i k))∧w.cell? ⟨B i,O i+k*4+3,none⟩=some (.int .i64 (D.ato i k)):=by
 rcases h with ⟨h0,a,cap,rfl,hm⟩ | ⟨b,off,cap,A,rfl,h1,h2,h3,h4⟩
 ·exact ⟨a,cap,0,0,fun _=>none,fun _=>0,fun _=>0,fun _=>0,by rw [h0],by omega,by omega,hm,by omega,fun i hi=>by omega⟩
 ·classical
  have hall:∀ i,∃ t:Option Addr × Nat × Nat × Nat,i < D.n→A i=.slice t.1 (D.na i) t.2.1∧D.na i≤t.2.1∧t.2.1≤maxLen∧(0 < D.na i→t.1=some ⟨t.2.2.1,t.2.2.2,none⟩)∧(0 < D.na i→t.2.2.1 < w.heap.size∧some t.2.2.1≠z) ∧
    ∀ k,k < D.na i→w.cell? ⟨t.2.2.1,t.2.2.2+k*4,none⟩=some (.int .i64 (D.ain i k))∧w.cell? ⟨t.2.2.1,t.2.2.2+k*4+1,none⟩=some (.int .i64 (D.aout i k))∧w.cell? ⟨t.2.2.1,t.2.2.2+k*4+2,none⟩=some (.string (D.aw i k))∧w.cell? ⟨t.2.2.1,t.2.2.2+k*4+3,none⟩=some (.int .i64 (D.ato i k)):=fun i=>by
   by_cases hi:i < D.n
   ·rcases (h4 i hi).2.2 with ⟨e0,a',c',e,hm'⟩ | ⟨b',o',c',e,k1,k2,k3,k4⟩
    ·exact ⟨(a',c',0,0),fun _=>⟨by rw [e,e0],by rw [e0];exact Nat.zero_le _,hm',by omega,by omega,fun k hk=>by omega⟩⟩
    ·exact ⟨(some ⟨b',o',none⟩,c',b',o'),fun _=>⟨e,k2,k3,fun _=>rfl,fun _=>k1,k4⟩⟩
   ·exact ⟨(none,0,0,0),fun h=>absurd h hi⟩
  refine ⟨_,cap,b,off,fun i=>(Classical.choose (hall i)).1,fun i=>(Classical.choose (hall i)).2.1,fun i=>(Classical.choose (hall i)).2.2.1,fun i=>(Classical.choose (hall i)).2.2.2,rfl,fun _=>rfl,h2,h3,fun _=>h1,fun i hi=>?_⟩
  obtain ⟨k1,k2,k3,k4,k5,k6⟩:=Classical.choose_spec (hall i) hi
  exact ⟨(h4 i hi).1,by rw [(h4 i hi).2.1,k1],k2,k3,k4,k5,k6⟩
def Ma (z:Option Nat) (w:World) (v:Value) (D:MD):Prop:=∃ sv,v=.agg #[.int .i64 D.kind,.int .i64 D.start,.string D.lead,sv]∧StS z w sv D
def arcsTo (D:MD):Nat→Nat
 | 0=>0
 | i+1=>arcsTo D i+D.na i
theorem arcsTo_mono (D:MD) {i j:Nat} (h:i≤j):arcsTo D i≤arcsTo D j:=by
 induction j with
 | zero=>have:i=0:=by omega
         subst this;exact Nat.le_refl _
 | succ j ih =>
  by_cases e:i=j+1
  ·subst e;exact Nat.le_refl _
  ·have:=ih (by omega);show _≤arcsTo D j+D.na j;omega
structure ArcOk (D:MD) (i k:Nat):Prop where
 i0:0≤D.ain i k
 i1:D.ain i k≤500
 o0:0≤D.aout i k
 o1:D.aout i k≤500
 t0:0≤D.ato i k
 t1:D.ato i k < (D.n:Int)
 wt:weightF D.kind (D.aw i k)=true
structure VM (D:MD):Prop where
 kind:kindB D.kind=true
 n1:1≤D.n
 n2:D.n≤3000
 s0:0≤D.start
 s1:D.start < (D.n:Int)
 lead:weightF D.kind D.lead=true
 arcs:arcsTo D D.n≤30000
 fin:∀ i,i < D.n→D.fin i=⟨#[]⟩∨weightF D.kind (D.fin i)=true
 arc:∀ i k,i < D.n→k < D.na i→ArcOk D i k
structure MSz (D:MD):Prop where
 lead:D.lead.size≤9223372036854775807
 fin:∀ i,(D.fin i).size≤9223372036854775807
 aw:∀ i k,(D.aw i k).size≤9223372036854775807
 na:∀ i,D.na i≤140737488355328
 n:D.n≤140737488355328
 kind:-9223372036854775808≤D.kind∧D.kind≤9223372036854775807
end Go.Proofs.YtjekapjbigfkbaaGreatDoor
namespace Go.Proofs.YtjekapjbigfkbaaGreatDoor
open Go Go.RowKit Go.Deep
set_option maxRecDepth 100000
theorem symbol_any (s:Int) (w:World):Calls Tryz.prog 122 #[.int .i64 s] w fun e w'=>e=.returned (.bool (decide (0≤s) && decide (s≤500)))∧w=w':=by
 by_cases h:0≤s
 ·go_enter Tryz.func122,Tryz.ntmps122
  go_wp2
  go_ret
  exact ⟨ret_bool (by simp [h]),rfl⟩
 ·have h':decide (0≤s)=false:=by simp;omega
  go_enter Tryz.func122,Tryz.ntmps122
  go_wp2
  go_ret
  exact ⟨ret_bool rfl,rfl⟩
theorem cell_new (w:World) (cs:Array Value) (t:TypeId) (i:Nat) (v:Value) (h:cs[i]?=some v):(w.alloc (.cells cs t)).cell? ⟨w.heap.size,i,none⟩=some v:=by
 have h1:(w.alloc (.cells cs t)).heap[w.heap.size]?=some (.cells cs t (0,0)):=heap_alloc_new w _
 generalize w.heap.size=b at *
 generalize w.alloc (.cells cs t)=w2 at *
 simp [World.cell?,h1,h]
def ValidE (D:MD) (w:World) (r:Ending) (w':World):Prop:=Below w.heap.size w w'∧((VM D∧r=.returned (.bool true))∨(¬ VM D∧r=.returned (.bool false)))
def BoxM (wr:World) (mb:Nat) (D:MD) (sv:Value):Prop:=wr.heap[mb]?=some (.cells #[.int .i64 D.kind,.int .i64 D.start,.string D.lead,sv] 36 (0,0))
theorem BoxM.c0 {wr:World} {mb:Nat} {D:MD} {sv:Value} (h:BoxM wr mb D sv):wr.cell? ⟨mb,0,none⟩=some (.int .i64 D.kind):=by unfold BoxM at h;simp [World.cell?,h]
theorem BoxM.c1 {wr:World} {mb:Nat} {D:MD} {sv:Value} (h:BoxM wr mb D sv):wr.cell? ⟨mb,1,none⟩=some (.int .i64 D.start):=by unfold BoxM at h;simp [World.cell?,h]
theorem BoxM.c2 {wr:World} {mb:Nat} {D:MD} {sv:Value} (h:BoxM wr mb D sv):wr.cell? ⟨mb,2,none⟩=some (.string D.lead):=by unfold BoxM at h;simp [World.cell?,h]
theorem BoxM.c3 {wr:World} {mb:Nat} {D:MD} {sv:Value} (h:BoxM wr mb D sv):wr.cell? ⟨mb,3,none⟩=some sv:=by unfold BoxM at h;simp [World.cell?,h]
theorem BoxM.lt {wr:World} {mb:Nat} {D:MD} {sv:Value} (h:BoxM wr mb D sv):mb < wr.heap.size:=(Array.getElem?_eq_some_iff.1 h).1
theorem BoxM.kept {wr w':World} {mb:Nat} {D:MD} {sv:Value} {z:Option Nat} (h:BoxM wr mb D sv) (hg:wr.grownBy w' z) (hz:some mb≠z):BoxM w' mb D sv:=by
 unfold BoxM;rw [hg.block mb h.lt hz];exact h
theorem BoxM.new (w:World) (D:MD) (sv:Value):BoxM (w.alloc (.cells #[.int .i64 D.kind,.int .i64 D.start,.string D.lead,sv] 36)) w.heap.size D sv:=heap_alloc_new w _
set_option maxHeartbeats 8000000 in
theorem mvalid_any {D:MD} {v:Value} (w:World) (hM:Ma none w v D) (hs:MSz D) (ht:Tab w):Calls Tryz.prog 76 #[v] w (ValidE D w):=by
 obtain ⟨sv,rfl,hS⟩:=hM
 obtain ⟨a,cap,b,off,A,C,BB,O,rfl,ha,hc,hm,hb,hrow⟩:=hS.open
 unfold maxLen at hm
 clear hS
 have hbox:=BoxM.new w D (.slice a D.n cap)
 have hbel:Below w.heap.size w (w.alloc (.cells #[.int .i64 D.kind,.int .i64 D.start,.string D.lead,.slice a D.n cap] 36)):=(Below.refl _ _).alloc (Nat.le_refl _) _
 have hnn:=hs.n
 obtain ⟨hk1,hk2⟩:=hs.kind
 have HSZ:=Lib.hid hs;clear hs
 have HT:=Lib.hid ht;clear ht
 have HA:=Lib.hid ha;clear ha
 have HB:=Lib.hid hb;clear hb
 have HR:=Lib.hid hrow;clear hrow
 have m0:=hbox.c0
 have m1:=hbox.c1
 have m2:=hbox.c2
 have m3:=hbox.c3
 have HBX:=Lib.hid hbox;clear hbox
 have HBE:=Lib.hid hbel;clear hbel
 go_enter Tryz.func76,Tryz.ntmps76
 go_wp2_with fail
 all_goals first
  | (go_ret;exact ⟨HBE.out,.inr ⟨fun v=>by have h1:=v.kind;have h2:=v.n1;have h3:=v.n2;have h4:=v.s0;have h5:=v.s1;unfold kindB at h1;simp at h1;omega,rfl⟩⟩)
  | skip
 have hkb:kindB D.kind=true:=by unfold kindB;simp;omega
 obtain ⟨wm,hwm⟩:∃ wm,wm=w.alloc (.cells #[.int .i64 D.kind,.int .i64 D.start,.string D.lead,.slice a D.n cap] 36):=⟨_,rfl⟩
 obtain ⟨mb,hmb⟩:∃ mb,mb=w.heap.size:=⟨_,rfl⟩
 have hpre:1≤D.n∧D.n≤3000∧0≤D.start∧D.start < (D.n:Int):=by omega
 have HPRE:=Lib.hid hpre;clear hpre
 have HKB:=Lib.hid hkb;clear hkb
 rw [← hwm,← hmb] at HBX
 rw [← hwm] at HBE
 rw [← hmb]
 rw [← hwm] at m0 m1 m2 m3
 rw [← hmb] at m0 m1 m2 m3
 rw [← hwm]
 have HMB:=Lib.hid hmb;clear hmb
 clear hwm
 have hwt:=semiweight_any D.kind D.lead wm HSZ.out.lead (HT.out.below HBE.out (Nat.le_refl _))
 have HWT:=Lib.hid hwt;clear hwt
 clear m0 m1 m2 m3
 cases hw:weightF D.kind D.lead
 ·rw [hw] at HWT
  refine HWT.out.mono ?_
  rintro r w1 ⟨rfl,hb1⟩
  go_wp2_with fail
  go_ret
  exact ⟨HBE.out.trans (hb1.mono HBE.out.size),.inr ⟨fun v=>by rw [v.lead] at hw;exact absurd hw (by simp),rfl⟩⟩
 ·rw [hw] at HWT
  refine HWT.out.mono ?_
  rintro r w1 ⟨rfl,hb1⟩
  have hbx1:=HBX.out.kept (gb_below hb1 none) (by simp)
  have hbe1:=HBE.out.trans (hb1.mono HBE.out.size)
  clear hb1
  have m3:=hbx1.c3
  have HBX1:=Lib.hid hbx1;clear hbx1 HBX
  have HBE1:=Lib.hid hbe1;clear hbe1 HBE
  go_wp2_with fail
  clear m3
  go_loopw [4,50] (fun c i wr=>∃ q:Nat,q≤D.n∧i=.int .i64 (q:Int)∧c=.int .i64 (arcsTo D q:Nat)∧arcsTo D q≤30000 ∧
   (∀ l,l < q→(D.fin l=⟨#[]⟩∨weightF D.kind (D.fin l)=true)∧∀ k,k < D.na l→ArcOk D l k)∧BoxM wr mb D (.slice a D.n cap)∧Below w.heap.size w wr) (fun _ i _=>D.n - (intOf i).toNat)
  case atStart=>exact ⟨0,Nat.zero_le _,rfl,rfl,by show 0≤30000;omega,fun l hl=>by omega,HBX1.out,HBE1.out⟩
  case round =>
   obtain ⟨q,hq,rfl,rfl,hac,hok,hbx,hbw⟩:=hrel
   clear HBX1 HBE1
   have HOK:=Lib.hid hok;clear hok
   have HBX:=Lib.hid hbx;clear hbx
   have HBW:=Lib.hid hbw;clear hbw
   by_cases hlt:q < D.n
   ·have hqz:(q:Int) < (D.n:Int):=by omega
    have hqz0:(0:Int)≤(q:Int):=by omega
    obtain rfl:=HA.out (by omega)
    have hbb:=(HB.out (by omega)).1
    obtain ⟨k1,k2,k3,k4,k5,k6,k7⟩:=HR.out q hlt
    generalize A q=aq at k2 k5
    have c0:=(HBW.out.cell (p:=⟨b,off+q*2,none⟩) hbb).trans k1
    have c1:=(HBW.out.cell (p:=⟨b,off+q*2+1,none⟩) hbb).trans k2
    unfold maxLen at k4
    have mA:=fun o=>(BoxM.c0 (HBX.out.kept (World.grownBy_alloc wr o none) (by simp)))
    have mB:=fun o=>HBX.out.kept (World.grownBy_alloc wr o none) (by simp)
    have mW:=fun o=>HBW.out.alloc HBW.out.size o
    have HMB2:=Lib.hid mB;clear mB
    have HMW:=Lib.hid mW;clear mW
    clear k1 k2
    have HK7:=Lib.hid k7;clear k7
    have HK5:=Lib.hid k5;clear k5
    have HK6:=Lib.hid k6;clear k6
    have hna:=HSZ.out.na q
    by_cases hG:30000 < arcsTo D q+D.na q
    ·have hGz:(30000:Int) < (arcsTo D q:Nat)+(D.na q:Int):=by omega
     go_wp2_with fail
     go_ret
     exact ⟨HMW.out _,.inr ⟨fun v=>by have h1:=v.arcs;have h2:=arcsTo_mono D (show q+1≤D.n by omega);have h3:arcsTo D (q+1)=arcsTo D q+D.na q:=rfl;omega,rfl⟩⟩
    ·have hGz:decide ((30000:Int) < (arcsTo D q:Nat)+(D.na q:Int))=false:=by simp;omega
     cases hF:((D.fin q).toList == [])
     ·have hwf:=fun wx hb=>semiweight_any D.kind (D.fin q) wx (HSZ.out.fin q) (HT.out.below (B:=w.heap.size) hb (Nat.le_refl _))
      have HWF:=Lib.hid hwf;clear hwf
      go_wp2_with fail
      refine (HWF.out _ (HMW.out _)).mono ?_
      rintro r w2 ⟨rfl,hb2⟩
      cases hwq:weightF D.kind (D.fin q)
      ·go_wp2_with fail
       go_ret
       exact ⟨(HMW.out _).trans (hb2.mono (HMW.out _).size),.inr ⟨fun v=>by
        rcases v.fin q hlt with h1 | h1
        ·rw [h1] at hF;exact absurd hF (by simp)
        ·rw [h1] at hwq;exact absurd hwq (by simp),rfl⟩⟩
      ·have hx1:=(HMB2.out (.cells #[.string (D.fin q),.slice aq (D.na q) (C q)] 87)).kept (gb_below hb2 none) (by simp)
       have hx2:=(HMW.out (.cells #[.string (D.fin q),.slice aq (D.na q) (C q)] 87)).trans (hb2.mono (HMW.out _).size)
       have hx3:w2.cell? ⟨wr.heap.size,1,none⟩=some (.slice aq (D.na q) (C q)):=by
        rw [hb2.cell (p:=⟨wr.heap.size,1,none⟩) (by simp)]
        exact cell_new wr _ _ 1 _ rfl
       clear hb2
       have HX1:=Lib.hid hx1;clear hx1
       have HX2:=Lib.hid hx2;clear hx2
       have HFW:=Lib.hid (show D.fin q=⟨#[]⟩∨weightF D.kind (D.fin q)=true from .inr hwq)
       go_wp2_with fail
       clear hx3
       go_loopw [77] (fun i wr=>∃ d:Nat,d≤D.na q∧i=.int .i64 (d:Int)∧(∀ k,k < d→ArcOk D q k)∧BoxM wr mb D (.slice (some ⟨b,off,none⟩) D.n cap)∧Below w.heap.size w wr) (fun i _=>D.na q - (intOf i).toNat)
       case atStart=>exact ⟨0,Nat.zero_le _,rfl,fun k hk=>by omega,HX1.out,HX2.out⟩
       case round =>
        obtain ⟨d,hd,rfl,hko,hbx2,hbw2⟩:=hrel
        clear HX1 HX2
        have HKO:=Lib.hid hko;clear hko
        have HBX2:=Lib.hid hbx2;clear hbx2
        have HBW2:=Lib.hid hbw2;clear hbw2
        by_cases hlt2:d < D.na q
        ·have hdz:(d:Int) < (D.na q:Int):=by omega
         have hdz0:(0:Int)≤(d:Int):=by omega
         obtain rfl:=HK5.out (by omega)
         have hbq:=(HK6.out (by omega)).1
         obtain ⟨j0,j1,j2,j3⟩:=HK7.out d hlt2
         have e0:=(HBW2.out.cell (p:=⟨BB q,O q+d*4,none⟩) hbq).trans j0
         have e1:=(HBW2.out.cell (p:=⟨BB q,O q+d*4+1,none⟩) hbq).trans j1
         have e2:=(HBW2.out.cell (p:=⟨BB q,O q+d*4+2,none⟩) hbq).trans j2
         have e3:=(HBW2.out.cell (p:=⟨BB q,O q+d*4+3,none⟩) hbq).trans j3
         clear j0 j1 j2 j3
         have mA2:=fun o=>(BoxM.c0 (HBX2.out.kept (World.grownBy_alloc wr o none) (by simp)))
         have HMB3:=Lib.hid (fun o=>HBX2.out.kept (World.grownBy_alloc wr o none) (by simp))
         have HMW3:=Lib.hid (fun o=>HBW2.out.alloc HBW2.out.size o)
         have hwf3:=fun wx hb=>semiweight_any D.kind (D.aw q d) wx (HSZ.out.aw q d) (HT.out.below (B:=w.heap.size) hb (Nat.le_refl _))
         have HWF3:=Lib.hid hwf3;clear hwf3
         go_wp2_with fail
         refine (symbol_any _ _).mono ?_
         rintro r w' ⟨rfl,rfl⟩
         cases hi1:(decide (0≤D.ain q d) && decide (D.ain q d≤500))
         ·have HI1:=Lib.hid hi1
          go_wp2_with fail
          go_ret
          exact ⟨HMW3.out _,.inr ⟨fun v=>by have h1:=v.arc q d hlt hlt2;have h2:=HI1.out;rw [decide_eq_true h1.i0,decide_eq_true h1.i1] at h2;exact absurd h2 (by simp),rfl⟩⟩
         ·have HI1:=Lib.hid hi1
          go_wp2_with fail
          refine (symbol_any _ _).mono ?_
          rintro r w' ⟨rfl,rfl⟩
          cases hi2:(decide (0≤D.aout q d) && decide (D.aout q d≤500))
          ·have HI2:=Lib.hid hi2
           go_wp2_with fail
           go_ret
           exact ⟨HMW3.out _,.inr ⟨fun v=>by have h1:=v.arc q d hlt hlt2;have h2:=HI2.out;rw [decide_eq_true h1.o0,decide_eq_true h1.o1] at h2;exact absurd h2 (by simp),rfl⟩⟩
          ·have HI2:=Lib.hid hi2
           by_cases ht0:D.ato q d < 0
           ·go_wp2_with fail
            go_ret
            exact ⟨HMW3.out _,.inr ⟨fun v=>by have h1:=(v.arc q d hlt hlt2).t0;omega,rfl⟩⟩
           ·have ht0z:decide (D.ato q d < 0)=false:=by simp;omega
            by_cases ht1:(D.n:Int)≤D.ato q d
            ·go_wp2_with fail
             go_ret
             exact ⟨HMW3.out _,.inr ⟨fun v=>by have h1:=(v.arc q d hlt hlt2).t1;omega,rfl⟩⟩
            ·have ht1z:decide ((D.n:Int)≤D.ato q d)=false:=by simp;omega
             go_wp2_with fail
             refine (HWF3.out _ (HMW3.out _)).mono ?_
             rintro r w4 ⟨rfl,hb4⟩
             have hbx4:=(HMB3.out _).kept (gb_below hb4 none) (by simp)
             have hbw4:=(HMW3.out _).trans (hb4.mono (HMW3.out _).size)
             clear hb4 mA2 e0 e1 e2 e3
             cases hw4:weightF D.kind (D.aw q d)
             ·go_wp2_with fail
              go_ret
              exact ⟨hbw4,.inr ⟨fun v=>by have h1:=(v.arc q d hlt hlt2).wt;rw [hw4] at h1;exact absurd h1 (by simp),rfl⟩⟩
             ·go_wp2_with fail
              go_roundw
              case rel =>
               refine ⟨d+1,by omega,by go_num,fun k hk=>?_,hbx4,hbw4⟩
               rcases Nat.lt_succ_iff_lt_or_eq.1 hk with h2 | h2
               ·exact HKO.out k h2
               ·subst h2
                have h3:=HI1.out
                have h4:=HI2.out
                simp only [Bool.and_eq_true,decide_eq_true_eq] at h3 h4
                exact ⟨h3.1,h3.2,h4.1,h4.2,by omega,by omega,hw4⟩
              case measure=>simp [intOf];omega
        ·have hdn:d=D.na q:=by omega
         subst hdn
         have hgt:¬ ((D.na q:Int) < (D.na q:Int)):=by omega
         go_wp2_with fail
         go_roundw
         case rel =>
          refine ⟨q+1,by omega,by go_num,rfl,by show arcsTo D q+D.na q≤30000;omega,fun l hl=>?_,HBX2.out,HBW2.out⟩
          rcases Nat.lt_succ_iff_lt_or_eq.1 hl with h2 | h2
          ·exact HOK.out l h2
          ·subst h2;exact ⟨HFW.out,HKO.out⟩
         case measure=>simp [intOf];omega
     ·have hfe:D.fin q=⟨#[]⟩:=by rw [beq_iff_eq,Lib.toList_data] at hF;exact ByteArray.ext (Array.toList_inj.1 hF)
      have HFW:=Lib.hid (show D.fin q=⟨#[]⟩∨weightF D.kind (D.fin q)=true from .inl hfe)
      clear hfe
      have HX1:=Lib.hid (HMB2.out (.cells #[.string (D.fin q),.slice aq (D.na q) (C q)] 87))
      have HX2:=Lib.hid (HMW.out (.cells #[.string (D.fin q),.slice aq (D.na q) (C q)] 87))
      go_wp2_with fail
      go_loopw [77] (fun i wr=>∃ d:Nat,d≤D.na q∧i=.int .i64 (d:Int)∧(∀ k,k < d→ArcOk D q k)∧BoxM wr mb D (.slice (some ⟨b,off,none⟩) D.n cap)∧Below w.heap.size w wr) (fun i _=>D.na q - (intOf i).toNat)
      case atStart=>exact ⟨0,Nat.zero_le _,rfl,fun k hk=>by omega,HX1.out,HX2.out⟩
      case round =>
       obtain ⟨d,hd,rfl,hko,hbx2,hbw2⟩:=hrel
       clear HX1 HX2
       have HKO:=Lib.hid hko;clear hko
       have HBX2:=Lib.hid hbx2;clear hbx2
       have HBW2:=Lib.hid hbw2;clear hbw2
       by_cases hlt2:d < D.na q
       ·have hdz:(d:Int) < (D.na q:Int):=by omega
        have hdz0:(0:Int)≤(d:Int):=by omega
        obtain rfl:=HK5.out (by omega)
        have hbq:=(HK6.out (by omega)).1
        obtain ⟨j0,j1,j2,j3⟩:=HK7.out d hlt2
        have e0:=(HBW2.out.cell (p:=⟨BB q,O q+d*4,none⟩) hbq).trans j0
        have e1:=(HBW2.out.cell (p:=⟨BB q,O q+d*4+1,none⟩) hbq).trans j1
        have e2:=(HBW2.out.cell (p:=⟨BB q,O q+d*4+2,none⟩) hbq).trans j2
        have e3:=(HBW2.out.cell (p:=⟨BB q,O q+d*4+3,none⟩) hbq).trans j3
        clear j0 j1 j2 j3
        have mA2:=fun o=>(BoxM.c0 (HBX2.out.kept (World.grownBy_alloc wr o none) (by simp)))
        have HMB3:=Lib.hid (fun o=>HBX2.out.kept (World.grownBy_alloc wr o none) (by simp))
        have HMW3:=Lib.hid (fun o=>HBW2.out.alloc HBW2.out.size o)
        have hwf3:=fun wx hb=>semiweight_any D.kind (D.aw q d) wx (HSZ.out.aw q d) (HT.out.below (B:=w.heap.size) hb (Nat.le_refl _))
        have HWF3:=Lib.hid hwf3;clear hwf3
        go_wp2_with fail
        refine (symbol_any _ _).mono ?_
        rintro r w' ⟨rfl,rfl⟩
        cases hi1:(decide (0≤D.ain q d) && decide (D.ain q d≤500))
        ·have HI1:=Lib.hid hi1
         go_wp2_with fail
         go_ret
         exact ⟨HMW3.out _,.inr ⟨fun v=>by have h1:=v.arc q d hlt hlt2;have h2:=HI1.out;rw [decide_eq_true h1.i0,decide_eq_true h1.i1] at h2;exact absurd h2 (by simp),rfl⟩⟩
        ·have HI1:=Lib.hid hi1
         go_wp2_with fail
         refine (symbol_any _ _).mono ?_
         rintro r w' ⟨rfl,rfl⟩
         cases hi2:(decide (0≤D.aout q d) && decide (D.aout q d≤500))
         ·have HI2:=Lib.hid hi2
          go_wp2_with fail
          go_ret
          exact ⟨HMW3.out _,.inr ⟨fun v=>by have h1:=v.arc q d hlt hlt2;have h2:=HI2.out;rw [decide_eq_true h1.o0,decide_eq_true h1.o1] at h2;exact absurd h2 (by simp),rfl⟩⟩
         ·have HI2:=Lib.hid hi2
          by_cases ht0:D.ato q d < 0
          ·go_wp2_with fail
           go_ret
           exact ⟨HMW3.out _,.inr ⟨fun v=>by have h1:=(v.arc q d hlt hlt2).t0;omega,rfl⟩⟩
          ·have ht0z:decide (D.ato q d < 0)=false:=by simp;omega
           by_cases ht1:(D.n:Int)≤D.ato q d
           ·go_wp2_with fail
            go_ret
            exact ⟨HMW3.out _,.inr ⟨fun v=>by have h1:=(v.arc q d hlt hlt2).t1;omega,rfl⟩⟩
           ·have ht1z:decide ((D.n:Int)≤D.ato q d)=false:=by simp;omega
            go_wp2_with fail
            refine (HWF3.out _ (HMW3.out _)).mono ?_
            rintro r w4 ⟨rfl,hb4⟩
            have hbx4:=(HMB3.out _).kept (gb_below hb4 none) (by simp)
            have hbw4:=(HMW3.out _).trans (hb4.mono (HMW3.out _).size)
            clear hb4 mA2 e0 e1 e2 e3
            cases hw4:weightF D.kind (D.aw q d)
            ·go_wp2_with fail
             go_ret
             exact ⟨hbw4,.inr ⟨fun v=>by have h1:=(v.arc q d hlt hlt2).wt;rw [hw4] at h1;exact absurd h1 (by simp),rfl⟩⟩
            ·go_wp2_with fail
             go_roundw
             case rel =>
              refine ⟨d+1,by omega,by go_num,fun k hk=>?_,hbx4,hbw4⟩
              rcases Nat.lt_succ_iff_lt_or_eq.1 hk with h2 | h2
              ·exact HKO.out k h2
              ·subst h2
               have h3:=HI1.out
               have h4:=HI2.out
               simp only [Bool.and_eq_true,decide_eq_true_eq] at h3 h4
               exact ⟨h3.1,h3.2,h4.1,h4.2,by omega,by omega,hw4⟩
             case measure=>simp [intOf];omega
       ·have hdn:d=D.na q:=by omega
        subst hdn
        have hgt:¬ ((D.na q:Int) < (D.na q:Int)):=by omega
        go_wp2_with fail
        go_roundw
        case rel =>
         refine ⟨q+1,by omega,by go_num,rfl,by show arcsTo D q+D.na q≤30000;omega,fun l hl=>?_,HBX2.out,HBW2.out⟩
         rcases Nat.lt_succ_iff_lt_or_eq.1 hl with h2 | h2
         ·exact HOK.out l h2
         ·subst h2;exact ⟨HFW.out,HKO.out⟩
        case measure=>simp [intOf];omega
   ·have hqn:q=D.n:=by omega
    subst hqn
    have hgt:¬ ((D.n:Int) < (D.n:Int)):=by omega
    obtain ⟨p1,p2,p3,p4⟩:=HPRE.out
    go_wp2_with fail
    go_ret
    exact ⟨HBW.out,.inl ⟨⟨HKB.out,p1,p2,p3,p4,hw,hac,fun i hi=>(HOK.out i hi).1,fun i k hi hk=>(HOK.out i hi).2 k hk⟩,rfl⟩⟩
end Go.Proofs.YtjekapjbigfkbaaGreatDoor

namespace Go.Proofs.YtjekapjbigfkbaaGreatDoor
open Go Go.RowKit Go.Deep
set_option maxRecDepth 100000
set_option linter.unusedSimpArgs false
structure Fr (C:Nat→Prop) (w w':World):Prop where
 os:w'.os=w.os
 tape:w'.tape=w.tape
 output:w'.output=w.output
 size:w.heap.size≤w'.heap.size
 block:∀ q,q < w.heap.size→¬ C q→w'.heap[q]?=w.heap[q]?
namespace Fr
variable {C C':Nat→Prop} {w w' w2:World}
theorem refl (C:Nat→Prop) (w:World):Fr C w w:=⟨rfl,rfl,rfl,Nat.le_refl _,fun _ _ _=>rfl⟩
theorem trans (h:Fr C w w') (k:Fr C w' w2):Fr C w w2:=⟨k.os.trans h.os,k.tape.trans h.tape,k.output.trans h.output,Nat.le_trans h.size k.size,fun q hq hc=>(k.block q (by have:=h.size;omega) hc).trans (h.block q hq hc)⟩
theorem mono (h:Fr C w w') (hc:∀ q,q < w.heap.size→C q→C' q):Fr C' w w':=⟨h.os,h.tape,h.output,h.size,fun q hq hn=>h.block q hq fun e=>hn (hc q hq e)⟩
theorem of_gb {z:Option Nat} (h:w.grownBy w' z) (hz:∀ q,z=some q→C q):Fr C w w':=⟨h.os,h.tape,h.output,h.size,fun q hq hc=>h.block q hq fun e=>hc (hz q e.symm)⟩
theorem of_below (h:Below w.heap.size w w'):Fr C w w':=of_gb (gb_below h none) (by simp)
theorem alloc (w:World) (o:Obj):Fr C w (w.alloc o):=of_gb (World.grownBy_alloc w o none) (by simp)
theorem drew (h:Fr C w w'):Fr C w w'.drew:=⟨h.os,h.tape,h.output,h.size,h.block⟩
theorem set (h:Fr C w w') {p:Addr} (hp:C p.block∨w.heap.size≤p.block) (v:Value):Fr C w (w'.setCell p v) :=
 ⟨h.os,h.tape,h.output,by rw [nblk_setCell];exact h.size,fun q hq hc=>(blk_setCell_other _ _ _ _ (by
  rcases hp with e | e
  ·intro e2;subst e2;exact hc e
  ·omega)).trans (h.block q hq hc)⟩
theorem below (h:Fr C w w') {B:Nat} (hB:B≤w.heap.size) (hc:∀ q,C q→B≤q):Below B w w':=⟨h.os,h.tape,h.output,h.size,fun q hq=>h.block q (by omega) fun e=>by have:=hc q e;omega⟩
theorem gb {z:Option Nat} (h:Fr (fun q=>z=some q) w w'):w.grownBy w' z:=⟨h.os,h.tape,h.output,h.size,fun q hq hz=>h.block q hq fun e=>hz e.symm⟩
theorem cell (h:Fr C w w') {p:Addr} {v:Value} (hp:w.cell? p=some v) (hc:¬ C p.block):w'.cell? p=some v:=by
 have hlt:p.block < w.heap.size:=by
  unfold World.cell? at hp
  cases hb:w.heap[p.block]? with
  | none=>simp [hb] at hp
  | some o=>exact (Array.getElem?_eq_some_iff.1 hb).1
 unfold World.cell? at hp ⊢
 rw [h.block _ hlt hc];exact hp
theorem row (h:Fr C w w') {g:Nat} {t:TypeId} {n:Nat} {F:Nat→Value} (hr:w.rowIs g t n F) (hc:¬ C g):w'.rowIs g t n F:=hr.of_block (h.block g hr.lt hc)
end Fr
theorem blk_setne {w:World} {p:Addr} {q:Nat} (h:q≠p.block) (v:Value):(w.setCell p v).heap[q]?=w.heap[q]?:=blk_setCell_other _ _ _ _ h
def plusC (k:Int) (a b:ByteArray) (e:Nat):ByteArray × Nat:=if a=⟨#[]⟩∨e≠0 then (b,e) else plusF k a b
def timesC (k:Int) (a b:ByteArray) (e:Nat):ByteArray × Nat:=if e≠0 then (a,e) else timesF k a b
abbrev WS:=(Nat→ByteArray) × Nat
def updS (l:Nat→ByteArray) (t:Nat) (s:ByteArray):Nat→ByteArray:=fun j=>if j=t then s else l j
def arcC (D:MD) (sel:Int→Int→Bool) (v:Nat→ByteArray) (q k:Nat) (s:WS):WS :=
 if sel (D.ain q k) (D.aout q k)=true then
  (updS s.1 (D.ato q k).toNat (plusC D.kind (s.1 (D.ato q k).toNat) (timesC D.kind (v q) (D.aw q k) s.2).1 (timesC D.kind (v q) (D.aw q k) s.2).2).1,(plusC D.kind (s.1 (D.ato q k).toNat) (timesC D.kind (v q) (D.aw q k) s.2).1 (timesC D.kind (v q) (D.aw q k) s.2).2).2)
 else s
def arcsC (D:MD) (sel:Int→Int→Bool) (v:Nat→ByteArray) (q:Nat):Nat→WS→WS
 | 0,s=>s
 | k+1,s=>arcC D sel v q k (arcsC D sel v q k s)
def rowC (D:MD) (sel:Int→Int→Bool) (v:Nat→ByteArray) (q:Nat) (s:WS):WS:=if v q=⟨#[]⟩ then s else arcsC D sel v q (D.na q) s
def stepC (D:MD) (sel:Int→Int→Bool) (v:Nat→ByteArray):Nat→WS→WS
 | 0,s=>s
 | q+1,s=>rowC D sel v q (stepC D sel v q s)
def endC (D:MD) (v:Nat→ByteArray):Nat→ByteArray × Nat→ByteArray × Nat
 | 0,s=>s
 | q+1,s=>if v q=⟨#[]⟩∨D.fin q=⟨#[]⟩ then endC D v q s else plusC D.kind (endC D v q s).1 (timesC D.kind (v q) (D.fin q) (endC D v q s).2).1 (timesC D.kind (v q) (D.fin q) (endC D v q s).2).2
def finC (D:MD) (v:Nat→ByteArray) (e:Nat):ByteArray × Nat:=if (endC D v D.n (zeroF D.kind,e)).2≠0 then (⟨#[]⟩,(endC D v D.n (zeroF D.kind,e)).2) else ((endC D v D.n (zeroF D.kind,e)).1,0)
def startC (D:MD):Nat→ByteArray:=fun q=>if q=D.start.toNat then D.lead else ⟨#[]⟩
def noneC:Nat→ByteArray:=fun _=>⟨#[]⟩
def smS (s:ByteArray):Prop:=s.size≤9223372036854775807
theorem limV_sm (v:V):smS (limV v).1:=by
 unfold smS
 cases v with
 | inf=>decide
 | low=>decide
 | fin q=>exact Nat.le_trans (limR_size q) (by omega)
theorem plusF_sm (k:Int) (a b:ByteArray):smS (plusF k a b).1:=by
 unfold plusF;split
 ·exact limV_sm _
 ·show (str []).size≤_;decide
theorem timesF_sm (k:Int) (a b:ByteArray):smS (timesF k a b).1:=by
 unfold timesF;split
 ·exact limV_sm _
 ·show (str []).size≤_;decide
theorem plusC_sm {k:Int} {a b:ByteArray} {e:Nat} (hb:smS b):smS (plusC k a b e).1:=by
 unfold plusC;split
 ·exact hb
 ·exact plusF_sm _ _ _
theorem timesC_sm {k:Int} {a b:ByteArray} {e:Nat} (ha:smS a):smS (timesC k a b e).1:=by
 unfold timesC;split
 ·exact ha
 ·exact timesF_sm _ _ _
theorem arcC_sm {D:MD} {sel:Int→Int→Bool} {v:Nat→ByteArray} {q k:Nat} {s:WS} (hv:smS (v q)) (hs:∀ j,smS (s.1 j)) (j:Nat):smS ((arcC D sel v q k s).1 j):=by
 unfold arcC;split
 ·show smS (updS s.1 _ _ j)
  unfold updS;split
  ·exact plusC_sm (timesC_sm hv)
  ·exact hs j
 ·exact hs j
theorem arcsC_sm {D:MD} {sel:Int→Int→Bool} {v:Nat→ByteArray} {q:Nat} (hv:smS (v q)):∀ (k:Nat) {s:WS},(∀ j,smS (s.1 j))→∀ j,smS ((arcsC D sel v q k s).1 j)
 | 0,_,hs=>hs
 | k+1,_,hs=>fun j=>arcC_sm hv (arcsC_sm hv k hs) j
theorem stepC_sm {D:MD} {sel:Int→Int→Bool} {v:Nat→ByteArray} (hv:∀ j,smS (v j)):∀ (q:Nat) {s:WS},(∀ j,smS (s.1 j))→∀ j,smS ((stepC D sel v q s).1 j)
 | 0,_,hs=>hs
 | q+1,s,hs=>fun j=>by
  show smS ((rowC D sel v q (stepC D sel v q s)).1 j)
  unfold rowC;split
  ·exact stepC_sm hv q hs j
  ·exact arcsC_sm (hv q) _ (stepC_sm hv q hs) j
theorem endC_sm {D:MD} {v:Nat→ByteArray} (hv:∀ j,smS (v j)):∀ (q:Nat) {s:ByteArray × Nat},smS s.1→smS (endC D v q s).1
 | 0,_,hs=>hs
 | q+1,s,hs=>by
  unfold endC;split
  ·exact endC_sm hv q hs
  ·exact plusC_sm (timesC_sm (hv q))
end Go.Proofs.YtjekapjbigfkbaaGreatDoor

namespace Go.Proofs.YtjekapjbigfkbaaGreatDoor
open Go Go.RowKit Go.Deep
set_option maxRecDepth 100000
set_option linter.unusedSimpArgs false
def Scl (w:World) (cb:Nat) (D:MD) (sv star:Value) (e:Nat):Prop:=w.heap[cb]?=some (.cells #[.int .i64 D.kind,.int .i64 D.start,.string D.lead,sv,star,.int .i64 (e:Int)] 127 (0,0))
namespace Scl
variable {w w':World} {cb:Nat} {D:MD} {sv star:Value} {e:Nat}
theorem lt (h:Scl w cb D sv star e):cb < w.heap.size:=(Array.getElem?_eq_some_iff.1 h).1
theorem c0 (h:Scl w cb D sv star e):w.cell? ⟨cb,0,none⟩=some (.int .i64 D.kind):=by unfold Scl at h;simp [World.cell?,h]
theorem c1 (h:Scl w cb D sv star e):w.cell? ⟨cb,1,none⟩=some (.int .i64 D.start):=by unfold Scl at h;simp [World.cell?,h]
theorem c2 (h:Scl w cb D sv star e):w.cell? ⟨cb,2,none⟩=some (.string D.lead):=by unfold Scl at h;simp [World.cell?,h]
theorem c3 (h:Scl w cb D sv star e):w.cell? ⟨cb,3,none⟩=some sv:=by unfold Scl at h;simp [World.cell?,h]
theorem c4 (h:Scl w cb D sv star e):w.cell? ⟨cb,4,none⟩=some star:=by unfold Scl at h;simp [World.cell?,h]
theorem c5 (h:Scl w cb D sv star e):w.cell? ⟨cb,5,none⟩=some (.int .i64 (e:Int)):=by unfold Scl at h;simp [World.cell?,h]
theorem fz (h:Scl w cb D sv star e) (j:Nat):w.frozen? ⟨cb,j,none⟩=false:=by unfold Scl at h;simp [World.frozen?,h]
theorem setE (h:Scl w cb D sv star e) (e':Nat):Scl (w.setCell ⟨cb,5,none⟩ (.int .i64 (e':Int))) cb D sv star e':=by
 unfold Scl at h ⊢;simp [World.setCell,Array.getElem?_modify,h]
theorem kept {C:Nat→Prop} (h:Scl w cb D sv star e) (hf:Fr C w w') (hc:¬ C cb):Scl w' cb D sv star e:=by unfold Scl;rw [hf.block cb h.lt hc];exact h
end Scl
theorem empty_eq {a:ByteArray} (h:(a.toList == [])=true):a=⟨#[]⟩:=toList_eq (b:=⟨#[]⟩) (by rw [Lib.toList_data ⟨#[]⟩];exact h)
theorem wplus_any {cb:Nat} {D:MD} {sv star:Value} {e:Nat} (a b:ByteArray) (w:World) (hs:Scl w cb D sv star e) (ha:smS a) (hb:smS b) (ht:Tab w) :
  Calls Tryz.prog 126 #[.pointer (some ⟨cb,0,none⟩),.string a,.string b] w (fun r w'=>r=.returned (.string (plusC D.kind a b e).1)∧Scl w' cb D sv star (plusC D.kind a b e).2∧Fr (fun q=>q=cb) w w'):=by
 have k0:=hs.c0
 have k5:=hs.c5
 have HS:=Lib.hid hs;clear hs
 cases hA:(a.toList == [])
 ·have ha0:a≠⟨#[]⟩:=fun e=>by rw [e] at hA;simp at hA
  by_cases he:e=0
  ·subst he
   have hp:plusC D.kind a b 0=plusF D.kind a b:=by unfold plusC;rw [if_neg (by intro h;rcases h with h | h;exact ha0 h;exact h rfl)]
   rw [hp]
   have hc:=semiplus_any D.kind a b w ha hb ht
   have HC:=Lib.hid hc;clear hc ht
   go_enter Tryz.func126,Tryz.ntmps126
   go_wp2_with fail
   refine HC.out.mono ?_
   rintro r w1 ⟨rfl,hb1⟩
   have hf1:Fr (fun q=>q=cb) w w1:=Fr.of_below hb1
   have hs1:Scl w1 cb D sv star 0:=by unfold Scl;rw [hb1.block cb HS.out.lt];exact HS.out
   have f5:=hs1.fz 5
   have k5':=hs1.c5
   have HS1:=Lib.hid hs1;clear hs1 hb1
   have HF1:=Lib.hid hf1;clear hf1
   go_wp2_with fail
   go_ret
   exact ⟨rfl,HS1.out.setE _,HF1.out.set (.inl rfl) _⟩
  ·have hp:plusC D.kind a b e=(b,e):=by unfold plusC;rw [if_pos (.inr he)]
   have hez:¬ (e:Int)=0:=by omega
   rw [hp]
   go_enter Tryz.func126,Tryz.ntmps126
   go_wp2_with fail
   go_ret
   exact ⟨rfl,HS.out,Fr.refl _ _⟩
 ·have ha0:a=⟨#[]⟩:=empty_eq hA
  have hp:plusC D.kind a b e=(b,e):=by unfold plusC;rw [if_pos (.inl ha0)]
  rw [hp]
  go_enter Tryz.func126,Tryz.ntmps126
  go_wp2_with fail
  go_ret
  exact ⟨rfl,HS.out,Fr.refl _ _⟩
theorem wtimes_any {cb:Nat} {D:MD} {sv star:Value} {e:Nat} (a b:ByteArray) (w:World) (hs:Scl w cb D sv star e) (ha:smS a) (hb:smS b) (ht:Tab w) :
  Calls Tryz.prog 128 #[.pointer (some ⟨cb,0,none⟩),.string a,.string b] w (fun r w'=>r=.returned (.string (timesC D.kind a b e).1)∧Scl w' cb D sv star (timesC D.kind a b e).2∧Fr (fun q=>q=cb) w w'):=by
 have k0:=hs.c0
 have k5:=hs.c5
 have HS:=Lib.hid hs;clear hs
 by_cases he:e=0
 ·subst he
  have hp:timesC D.kind a b 0=timesF D.kind a b:=by unfold timesC;rw [if_neg (by simp)]
  rw [hp]
  have hc:=semitimes_any D.kind a b w ha hb ht
  have HC:=Lib.hid hc;clear hc ht
  go_enter Tryz.func128,Tryz.ntmps128
  go_wp2_with fail
  refine HC.out.mono ?_
  rintro r w1 ⟨rfl,hb1⟩
  have hf1:Fr (fun q=>q=cb) w w1:=Fr.of_below hb1
  have hs1:Scl w1 cb D sv star 0:=by unfold Scl;rw [hb1.block cb HS.out.lt];exact HS.out
  have f5:=hs1.fz 5
  have k5':=hs1.c5
  have HS1:=Lib.hid hs1;clear hs1 hb1
  have HF1:=Lib.hid hf1;clear hf1
  go_wp2_with fail
  go_ret
  exact ⟨rfl,HS1.out.setE _,HF1.out.set (.inl rfl) _⟩
 ·have hp:timesC D.kind a b e=(a,e):=by unfold timesC;rw [if_pos he]
  have hez:¬ (e:Int)=0:=by omega
  rw [hp]
  go_enter Tryz.func128,Tryz.ntmps128
  go_wp2_with fail
  go_ret
  exact ⟨rfl,HS.out,Fr.refl _ _⟩
theorem info_wstr:(Tryz.prog.info? 9).map (fun i=>(i.zero,i.size,i.bytes))=some (some (.string ⟨#[]⟩),1,16):=by kernel_rfl
theorem wnone_any {cb:Nat} {D:MD} {a:Option Addr} {cap:Nat} {star:Value} {e:Nat} (w:World) (hs:Scl w cb D (.slice a D.n cap) star e) (h1:1≤D.n) (hn:D.n≤3000) :
  Calls Tryz.prog 82 #[.pointer (some ⟨cb,0,none⟩)] w (fun r w'=>r=.returned (.slice (some ⟨w.heap.size,0,none⟩) D.n D.n)∧w'.rowIs w.heap.size 9 D.n (fun q=>.string (noneC q))∧Fr (fun _=>False) w w'∧w'.heap.size=w.heap.size+1):=by
 have k3:=hs.c3
 have hmk:=run_make_row' (P:=Tryz.prog) 124 9 (.string ⟨#[]⟩) 16 Tryz.underlying124 info_wstr rfl .i64 .i64 D.n (by omega) (by omega)
 go_enter Tryz.func82,Tryz.ntmps82
 go_wp2_with fail
 go_ret
 exact ⟨rfl,World.rowIs_made w (.string ⟨#[]⟩) D.n 9,Fr.alloc _ _,by simp⟩
end Go.Proofs.YtjekapjbigfkbaaGreatDoor
