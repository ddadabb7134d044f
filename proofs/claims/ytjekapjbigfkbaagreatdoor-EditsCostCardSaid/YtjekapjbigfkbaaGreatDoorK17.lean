/- Parts of a proof: C7 EdL. -/
import Derived.Test.YtjekapjbigfkbaaGreatDoorK16
import Derived.Deep.QuietTactic
import Derived.BigQuiet
namespace Go.Proofs.YtjekapjbigfkbaaGreatDoor
open Go Go.RowKit Go.Deep
set_option maxRecDepth 100000
structure MD where
 kind:Int
 start:Int
 lead:ByteArray
 n:Nat
 fin:Nat→ByteArray
 na:Nat→Nat
 ain:Nat→Nat→Int
 aout:Nat→Nat→Int
 aw:Nat→Nat→ByteArray
 ato:Nat→Nat→Int
def ArS (z:Option Nat) (w:World) (v:Value) (D:MD) (i:Nat):Prop :=
 (D.na i=0∧∃ a cap,v=.slice a 0 cap∧cap≤maxLen)∨∃ b off cap,v=.slice (some ⟨b,off,none⟩) (D.na i) cap∧(b < w.heap.size∧some b≠z)∧D.na i≤cap∧cap≤maxLen∧∀ k,k < D.na i →
  w.cell? ⟨b,off+k*4,none⟩=some (.int .i64 (D.ain i k))∧w.cell? ⟨b,off+k*4+1,none⟩=some (.int .i64 (D.aout i k))∧w.cell? ⟨b,off+k*4+2,none⟩=some (.string (D.aw i k))∧w.cell? ⟨b,off+k*4+3,none⟩=some (.int .i64 (D.ato i k))
def StS (z:Option Nat) (w:World) (v:Value) (D:MD):Prop :=
 (D.n=0∧∃ a cap,v=.slice a 0 cap∧cap≤maxLen)∨∃ b off cap,∃ A:Nat→Value,v=.slice (some ⟨b,off,none⟩) D.n cap∧(b < w.heap.size∧some b≠z)∧D.n≤cap∧cap≤maxLen∧∀ i,i < D.n →
  w.cell? ⟨b,off+i*2,none⟩=some (.string (D.fin i))∧w.cell? ⟨b,off+i*2+1,none⟩=some (A i)∧ArS z w (A i) D i
theorem ArS.kept {z:Option Nat} {w w':World} {v:Value} {D:MD} {i:Nat} (h:ArS z w v D i) (hg:w.grownBy w' z):ArS z w' v D i:=by
 rcases h with h | ⟨b,off,cap,hv,h1,h2,h3,h4⟩
 ·exact .inl h
 ·refine .inr ⟨b,off,cap,hv,⟨Nat.lt_of_lt_of_le h1.1 hg.size,h1.2⟩,h2,h3,fun k hk=>?_⟩
  obtain ⟨c1,c2,c3,c4⟩:=h4 k hk
  exact ⟨hg.cell c1 h1.2,hg.cell c2 h1.2,hg.cell c3 h1.2,hg.cell c4 h1.2⟩
theorem StS.kept {z:Option Nat} {w w':World} {v:Value} {D:MD} (h:StS z w v D) (hg:w.grownBy w' z):StS z w' v D:=by
 rcases h with h | ⟨b,off,cap,A,hv,h1,h2,h3,h4⟩
 ·exact .inl h
 ·refine .inr ⟨b,off,cap,A,hv,⟨Nat.lt_of_lt_of_le h1.1 hg.size,h1.2⟩,h2,h3,fun i hi=>?_⟩
  obtain ⟨c1,c2,c3⟩:=h4 i hi
  exact ⟨hg.cell c1 h1.2,hg.cell c2 h1.2,c3.kept hg⟩
theorem ArS.far {k:Nat} {z:Option Nat} {w:World} {v:Value} {D:MD} {i:Nat} (h:ArS z w v D i) (hk:w.heap.size≤k):ArS (some k) w v D i:=by
 rcases h with h | ⟨b,off,cap,hv,h1,h2⟩
 ·exact .inl h
 ·exact .inr ⟨b,off,cap,hv,⟨h1.1,by simp;omega⟩,h2⟩
theorem StS.far {k:Nat} {z:Option Nat} {w:World} {v:Value} {D:MD} (h:StS z w v D) (hk:w.heap.size≤k):StS (some k) w v D:=by
 rcases h with h | ⟨b,off,cap,A,hv,h1,h2,h3,h4⟩
 ·exact .inl h
 ·exact .inr ⟨b,off,cap,A,hv,⟨h1.1,by simp;omega⟩,h2,h3,fun i hi=>⟨(h4 i hi).1,(h4 i hi).2.1,(h4 i hi).2.2.far hk⟩⟩
theorem StS.open {z:Option Nat} {w:World} {v:Value} {D:MD} (h:StS z w v D):∃ a cap b off,∃ (A:Nat→Option Addr) (C B O:Nat→Nat),v=.slice a D.n cap∧(0 < D.n→a=some ⟨b,off,none⟩)∧D.n≤cap∧cap≤maxLen∧(0 < D.n→b < w.heap.size∧some b≠z) ∧
  ∀ i,i < D.n→w.cell? ⟨b,off+i*2,none⟩=some (.string (D.fin i))∧w.cell? ⟨b,off+i*2+1,none⟩=some (.slice (A i) (D.na i) (C i))∧D.na i≤C i∧C i≤maxLen∧(0 < D.na i→A i=some ⟨B i,O i,none⟩)∧(0 < D.na i→B i < w.heap.size∧some (B i)≠z) ∧
   ∀ k,k < D.na i→w.cell? ⟨B i,O i+k*4,none⟩=some (.int .i64 (D.ain i k))∧w.cell? ⟨B i,O i+k*4+1,none⟩=some (.int .i64 (D.aout i k))∧w.cell? ⟨B i,O i+k*4+2,none⟩=some (.string (D.aw i k))∧w.cell? ⟨B i,O i+k*4+3,none⟩=some (.int .i64 (D.ato i k)):=by
 rcases h with ⟨h0,a,cap,rfl,hm⟩ | ⟨b,off,cap,A,rfl,h1,h2,h3,h4⟩
 ·exact ⟨a,cap,0,0,fun _=>none,fun _=>0,fun _=>0,fun _=>0,by rw [h0],by omega,by omega,hm,by omega,fun i hi=>by omega⟩
 ·classical
  have hall:∀ i,∃ t:Option Addr × Nat × Nat × Nat,i < D.n→A i=.slice t.1 (D.na i) t.2.1∧D.na i≤t.2.1∧t.2.1≤maxLen∧(0 < D.na i→t.1=some ⟨t.2.2.1,t.2.2.2,none⟩)∧(0 < D.na i→t.2.2.1 < w.heap.size∧some t.2.2.1≠z) ∧
    ∀ k,k < D.na i→w.cell? ⟨t.2.2.1,t.2.2.2+k*4,none⟩=some (.int .i64 (D.ain i k))∧w.cell? ⟨t.2.2.1,t.2.2.2+k*4+1,none⟩=some (.int .i64 (D.aout i k))∧w.cell? ⟨t.2.2.1,t.2.2.2+k*4+2,none⟩=some (.string (D.aw i k))∧w.cell? ⟨t.2.2.1,t.2.2.2+k*4+3,none⟩=some (.int .i64 (D.ato i k)):=fun i=>by
   by_cases hi:i < D.n
   ·rcases (h4 i hi).2.2 with ⟨e0,a',c',e,hm'⟩ | ⟨b',o',c',e,k1,k2,k3,k4⟩
    ·exact ⟨(a',c',0,0),fun _=>⟨by rw [e,e0],by rw [e0];exact Nat.zero_le _,hm',by omega,by omega,fun k hk=>by omega⟩⟩
    ·exact ⟨(some ⟨b',o',none⟩,c',b',o'),fun _=>⟨e,k2,k3,fun _=>rfl,fun _=>k1,k4⟩⟩
   ·exact ⟨(none,0,0,0),fun h=>absurd h hi⟩
  refine ⟨_,cap,b,off,fun i=>(Classical.choose (hall i)).1,fun i=>(Classical.choose (hall i)).2.1,fun i=>(Classical.choose (hall i)).2.2.1,fun i=>(Classical.choose (hall i)).2.2.2,rfl,fun _=>rfl,h2,h3,fun _=>h1,fun i hi=>?_⟩
  obtain ⟨k1,k2,k3,k4,k5,k6⟩:=Classical.choose_spec (hall i) hi
  exact ⟨(h4 i hi).1,by rw [(h4 i hi).2.1,k1],k2,k3,k4,k5,k6⟩
def Ma (z:Option Nat) (w:World) (v:Value) (D:MD):Prop:=∃ sv,v=.agg #[.int .i64 D.kind,.int .i64 D.start,.string D.lead,sv]∧StS z w sv D
def arcsTo (D:MD):Nat→Nat
 | 0=>0
 | i+1=>arcsTo D i+D.na i
theorem arcsTo_mono (D:MD) {i j:Nat} (h:i≤j):arcsTo D i≤arcsTo D j:=by
 induction j with
 | zero=>have:i=0:=by omega
         subst this;exact Nat.le_refl _
 | succ j ih =>
  by_cases e:i=j+1
  ·subst e;exact Nat.le_refl _
  ·have:=ih (by omega);show _≤arcsTo D j+D.na j;omega
structure ArcOk (D:MD) (i k:Nat):Prop where
 i0:0≤D.ain i k
 i1:D.ain i k≤500
 o0:0≤D.aout i k
 o1:D.aout i k≤500
 t0:0≤D.ato i k
 t1:D.ato i k < (D.n:Int)
 wt:weightF D.kind (D.aw i k)=true
structure VM (D:MD):Prop where
 kind:kindB D.kind=true
 n1:1≤D.n
 n2:D.n≤3000
 s0:0≤D.start
 s1:D.start < (D.n:Int)
 lead:weightF D.kind D.lead=true
 arcs:arcsTo D D.n≤30000
 fin:∀ i,i < D.n→D.fin i=⟨#[]⟩∨weightF D.kind (D.fin i)=true
 arc:∀ i k,i < D.n→k < D.na i→ArcOk D i k
structure MSz (D:MD):Prop where
 lead:D.lead.size≤9223372036854775807
 fin:∀ i,(D.fin i).size≤9223372036854775807
 aw:∀ i k,(D.aw i k).size≤9223372036854775807
 na:∀ i,D.na i≤140737488355328
 n:D.n≤140737488355328
 kind:-9223372036854775808≤D.kind∧D.kind≤9223372036854775807
end Go.Proofs.YtjekapjbigfkbaaGreatDoor
namespace Go.Proofs.YtjekapjbigfkbaaGreatDoor
open Go Go.RowKit Go.Deep
set_option maxRecDepth 100000
theorem symbol_any (s:Int) (w:World):Calls Tryz.prog 122 #[.int .i64 s] w fun e w'=>e=.returned (.bool (decide (0≤s) && decide (s≤500)))∧w=w':=by
 by_cases h:0≤s
 ·go_enter Tryz.func122,Tryz.ntmps122
  go_wp2
  go_ret
  exact ⟨ret_bool (by simp [h]),rfl⟩
 ·have h':decide (0≤s)=false:=by simp;omega
  go_enter Tryz.func122,Tryz.ntmps122
  go_wp2
  go_ret
  exact ⟨ret_bool rfl,rfl⟩
theorem cell_new (w:World) (cs:Array Value) (t:TypeId) (i:Nat) (v:Value) (h:cs[i]?=some v):(w.alloc (.cells cs t)).cell? ⟨w.heap.size,i,none⟩=some v:=by
 have h1:(w.alloc (.cells cs t)).heap[w.heap.size]?=some (.cells cs t (0,0)):=heap_alloc_new w _
 generalize w.heap.size=b at *
 generalize w.alloc (.cells cs t)=w2 at *
 simp [World.cell?,h1,h]
def ValidE (D:MD) (w:World) (r:Ending) (w':World):Prop:=Below w.heap.size w w'∧((VM D∧r=.returned (.bool true))∨(¬ VM D∧r=.returned (.bool false)))
def BoxM (wr:World) (mb:Nat) (D:MD) (sv:Value):Prop:=wr.heap[mb]?=some (.cells #[.int .i64 D.kind,.int .i64 D.start,.string D.lead,sv] 36 (0,0))
theorem BoxM.c0 {wr:World} {mb:Nat} {D:MD} {sv:Value} (h:BoxM wr mb D sv):wr.cell? ⟨mb,0,none⟩=some (.int .i64 D.kind):=by unfold BoxM at h;simp [World.cell?,h]
theorem BoxM.c1 {wr:World} {mb:Nat} {D:MD} {sv:Value} (h:BoxM wr mb D sv):wr.cell? ⟨mb,1,none⟩=some (.int .i64 D.start):=by unfold BoxM at h;simp [World.cell?,h]
theorem BoxM.c2 {wr:World} {mb:Nat} {D:MD} {sv:Value} (h:BoxM wr mb D sv):wr.cell? ⟨mb,2,none⟩=some (.string D.lead):=by unfold BoxM at h;simp [World.cell?,h]
theorem BoxM.c3 {wr:World} {mb:Nat} {D:MD} {sv:Value} (h:BoxM wr mb D sv):wr.cell? ⟨mb,3,none⟩=some sv:=by unfold BoxM at h;simp [World.cell?,h]
theorem BoxM.lt {wr:World} {mb:Nat} {D:MD} {sv:Value} (h:BoxM wr mb D sv):mb < wr.heap.size:=(Array.getElem?_eq_some_iff.1 h).1
theorem BoxM.kept {wr w':World} {mb:Nat} {D:MD} {sv:Value} {z:Option Nat} (h:BoxM wr mb D sv) (hg:wr.grownBy w' z) (hz:some mb≠z):BoxM w' mb D sv:=by
 unfold BoxM;rw [hg.block mb h.lt hz];exact h
theorem BoxM.new (w:World) (D:MD) (sv:Value):BoxM (w.alloc (.cells #[.int .i64 D.kind,.int .i64 D.start,.string D.lead,sv] 36)) w.heap.size D sv:=heap_alloc_new w _
set_option maxHeartbeats 8000000 in
theorem mvalid_any {D:MD} {v:Value} (w:World) (hM:Ma none w v D) (hs:MSz D) (ht:Tab w):Calls Tryz.prog 76 #[v] w (ValidE D w):=by
 obtain ⟨sv,rfl,hS⟩:=hM
 obtain ⟨a,cap,b,off,A,C,BB,O,rfl,ha,hc,hm,hb,hrow⟩:=hS.open
 unfold maxLen at hm
 clear hS
 have hbox:=BoxM.new w D (.slice a D.n cap)
 have hbel:Below w.heap.size w (w.alloc (.cells #[.int .i64 D.kind,.int .i64 D.start,.string D.lead,.slice a D.n cap] 36)):=(Below.refl _ _).alloc (Nat.le_refl _) _
 have hnn:=hs.n
 obtain ⟨hk1,hk2⟩:=hs.kind
 have HSZ:=Lib.hid hs;clear hs
 have HT:=Lib.hid ht;clear ht
 have HA:=Lib.hid ha;clear ha
 have HB:=Lib.hid hb;clear hb
 have HR:=Lib.hid hrow;clear hrow
 have m0:=hbox.c0
 have m1:=hbox.c1
 have m2:=hbox.c2
 have m3:=hbox.c3
 have HBX:=Lib.hid hbox;clear hbox
 have HBE:=Lib.hid hbel;clear hbel
 go_enter Tryz.func76,Tryz.ntmps76
 go_wp2_with fail
 all_goals first
  | (go_ret;exact ⟨HBE.out,.inr ⟨fun v=>by have h1:=v.kind;have h2:=v.n1;have h3:=v.n2;have h4:=v.s0;have h5:=v.s1;unfold kindB at h1;simp at h1;omega,rfl⟩⟩)
  | skip
 have hkb:kindB D.kind=true:=by unfold kindB;simp;omega
 obtain ⟨wm,hwm⟩:∃ wm,wm=w.alloc (.cells #[.int .i64 D.kind,.int .i64 D.start,.string D.lead,.slice a D.n cap] 36):=⟨_,rfl⟩
 obtain ⟨mb,hmb⟩:∃ mb,mb=w.heap.size:=⟨_,rfl⟩
 have hpre:1≤D.n∧D.n≤3000∧0≤D.start∧D.start < (D.n:Int):=by omega
 have HPRE:=Lib.hid hpre;clear hpre
 have HKB:=Lib.hid hkb;clear hkb
 rw [← hwm,← hmb] at HBX
 rw [← hwm] at HBE
 rw [← hmb]
 rw [← hwm] at m0 m1 m2 m3
 rw [← hmb] at m0 m1 m2 m3
 rw [← hwm]
 have HMB:=Lib.hid hmb;clear hmb
 clear hwm
 have hwt:=semiweight_any D.kind D.lead wm HSZ.out.lead (HT.out.below HBE.out (Nat.le_refl _))
 have HWT:=Lib.hid hwt;clear hwt
 clear m0 m1 m2 m3
 cases hw:weightF D.kind D.lead
 ·rw [hw] at HWT
  refine HWT.out.mono ?_
  rintro r w1 ⟨rfl,hb1⟩
  go_wp2_with fail
  go_ret
  exact ⟨HBE.out.trans (hb1.mono HBE.out.size),.inr ⟨fun v=>by rw [v.lead] at hw;exact absurd hw (by simp),rfl⟩⟩
 ·rw [hw] at HWT
  refine HWT.out.mono ?_
  rintro r w1 ⟨rfl,hb1⟩
  have hbx1:=HBX.out.kept (gb_below hb1 none) (by simp)
  have hbe1:=HBE.out.trans (hb1.mono HBE.out.size)
  clear hb1
  have m3:=hbx1.c3
  have HBX1:=Lib.hid hbx1;clear hbx1 HBX
  have HBE1:=Lib.hid hbe1;clear hbe1 HBE
  go_wp2_with fail
  clear m3
  go_loopw [4,50] (fun c i wr=>∃ q:Nat,q≤D.n∧i=.int .i64 (q:Int)∧c=.int .i64 (arcsTo D q:Nat)∧arcsTo D q≤30000 ∧
   (∀ l,l < q→(D.fin l=⟨#[]⟩∨weightF D.kind (D.fin l)=true)∧∀ k,k < D.na l→ArcOk D l k)∧BoxM wr mb D (.slice a D.n cap)∧Below w.heap.size w wr) (fun _ i _=>D.n - (intOf i).toNat)
  case atStart=>exact ⟨0,Nat.zero_le _,rfl,rfl,by show 0≤30000;omega,fun l hl=>by omega,HBX1.out,HBE1.out⟩
  case round =>
   obtain ⟨q,hq,rfl,rfl,hac,hok,hbx,hbw⟩:=hrel
   clear HBX1 HBE1
   have HOK:=Lib.hid hok;clear hok
   have HBX:=Lib.hid hbx;clear hbx
   have HBW:=Lib.hid hbw;clear hbw
   by_cases hlt:q < D.n
   ·have hqz:(q:Int) < (D.n:Int):=by omega
    have hqz0:(0:Int)≤(q:Int):=by omega
    obtain rfl:=HA.out (by omega)
    have hbb:=(HB.out (by omega)).1
    obtain ⟨k1,k2,k3,k4,k5,k6,k7⟩:=HR.out q hlt
    generalize A q=aq at k2 k5
    have c0:=(HBW.out.cell (p:=⟨b,off+q*2,none⟩) hbb).trans k1
    have c1:=(HBW.out.cell (p:=⟨b,off+q*2+1,none⟩) hbb).trans k2
    unfold maxLen at k4
    have mA:=fun o=>(BoxM.c0 (HBX.out.kept (World.grownBy_alloc wr o none) (by simp)))
    have mB:=fun o=>HBX.out.kept (World.grownBy_alloc wr o none) (by simp)
    have mW:=fun o=>HBW.out.alloc HBW.out.size o
    have HMB2:=Lib.hid mB;clear mB
    have HMW:=Lib.hid mW;clear mW
    clear k1 k2
    have HK7:=Lib.hid k7;clear k7
    have HK5:=Lib.hid k5;clear k5
    have HK6:=Lib.hid k6;clear k6
    have hna:=HSZ.out.na q
    by_cases hG:30000 < arcsTo D q+D.na q
    ·have hGz:(30000:Int) < (arcsTo D q:Nat)+(D.na q:Int):=by omega
     go_wp2_with fail
     go_ret
     exact ⟨HMW.out _,.inr ⟨fun v=>by have h1:=v.arcs;have h2:=arcsTo_mono D (show q+1≤D.n by omega);have h3:arcsTo D (q+1)=arcsTo D q+D.na q:=rfl;omega,rfl⟩⟩
    ·have hGz:decide ((30000:Int) < (arcsTo D q:Nat)+(D.na q:Int))=false:=by simp;omega
     cases hF:((D.fin q).toList == [])
     ·have hwf:=fun wx hb=>semiweight_any D.kind (D.fin q) wx (HSZ.out.fin q) (HT.out.below (B:=w.heap.size) hb (Nat.le_refl _))
      have HWF:=Lib.hid hwf;clear hwf
      go_wp2_with fail
      refine (HWF.out _ (HMW.out _)).mono ?_
      rintro r w2 ⟨rfl,hb2⟩
      cases hwq:weightF D.kind (D.fin q)
      ·go_wp2_with fail
       go_ret
       exact ⟨(HMW.out _).trans (hb2.mono (HMW.out _).size),.inr ⟨fun v=>by
        rcases v.fin q hlt with h1 | h1
        ·rw [h1] at hF;exact absurd hF (by simp)
        ·rw [h1] at hwq;exact absurd hwq (by simp),rfl⟩⟩
      ·have hx1:=(HMB2.out (.cells #[.string (D.fin q),.slice aq (D.na q) (C q)] 87)).kept (gb_below hb2 none) (by simp)
       have hx2:=(HMW.out (.cells #[.string (D.fin q),.slice aq (D.na q) (C q)] 87)).trans (hb2.mono (HMW.out _).size)
       have hx3:w2.cell? ⟨wr.heap.size,1,none⟩=some (.slice aq (D.na q) (C q)):=by
        rw [hb2.cell (p:=⟨wr.heap.size,1,none⟩) (by simp)]
        exact cell_new wr _ _ 1 _ rfl
       clear hb2
       have HX1:=Lib.hid hx1;clear hx1
       have HX2:=Lib.hid hx2;clear hx2
       have HFW:=Lib.hid (show D.fin q=⟨#[]⟩∨weightF D.kind (D.fin q)=true from .inr hwq)
       go_wp2_with fail
       clear hx3
       go_loopw [77] (fun i wr=>∃ d:Nat,d≤D.na q∧i=.int .i64 (d:Int)∧(∀ k,k < d→ArcOk D q k)∧BoxM wr mb D (.slice (some ⟨b,off,none⟩) D.n cap)∧Below w.heap.size w wr) (fun i _=>D.na q - (intOf i).toNat)
       case atStart=>exact ⟨0,Nat.zero_le _,rfl,fun k hk=>by omega,HX1.out,HX2.out⟩
       case round =>
        obtain ⟨d,hd,rfl,hko,hbx2,hbw2⟩:=hrel
        clear HX1 HX2
        have HKO:=Lib.hid hko;clear hko
        have HBX2:=Lib.hid hbx2;clear hbx2
        have HBW2:=Lib.hid hbw2;clear hbw2
        by_cases hlt2:d < D.na q
        ·have hdz:(d:Int) < (D.na q:Int):=by omega
         have hdz0:(0:Int)≤(d:Int):=by omega
         obtain rfl:=HK5.out (by omega)
         have hbq:=(HK6.out (by omega)).1
         obtain ⟨j0,j1,j2,j3⟩:=HK7.out d hlt2
         have e0:=(HBW2.out.cell (p:=⟨BB q,O q+d*4,none⟩) hbq).trans j0
         have e1:=(HBW2.out.cell (p:=⟨BB q,O q+d*4+1,none⟩) hbq).trans j1
         have e2:=(HBW2.out.cell (p:=⟨BB q,O q+d*4+2,none⟩) hbq).trans j2
         have e3:=(HBW2.out.cell (p:=⟨BB q,O q+d*4+3,none⟩) hbq).trans j3
         clear j0 j1 j2 j3
         have mA2:=fun o=>(BoxM.c0 (HBX2.out.kept (World.grownBy_alloc wr o none) (by simp)))
         have HMB3:=Lib.hid (fun o=>HBX2.out.kept (World.grownBy_alloc wr o none) (by simp))
         have HMW3:=Lib.hid (fun o=>HBW2.out.alloc HBW2.out.size o)
         have hwf3:=fun wx hb=>semiweight_any D.kind (D.aw q d) wx (HSZ.out.aw q d) (HT.out.below (B:=w.heap.size) hb (Nat.le_refl _))
         have HWF3:=Lib.hid hwf3;clear hwf3
         go_wp2_with fail
         refine (symbol_any _ _).mono ?_
         rintro r w' ⟨rfl,rfl⟩
         cases hi1:(decide (0≤D.ain q d) && decide (D.ain q d≤500))
         ·have HI1:=Lib.hid hi1
          go_wp2_with fail
          go_ret
          exact ⟨HMW3.out _,.inr ⟨fun v=>by have h1:=v.arc q d hlt hlt2;have h2:=HI1.out;rw [decide_eq_true h1.i0,decide_eq_true h1.i1] at h2;exact absurd h2 (by simp),rfl⟩⟩
         ·have HI1:=Lib.hid hi1
          go_wp2_with fail
          refine (symbol_any _ _).mono ?_
          rintro r w' ⟨rfl,rfl⟩
          cases hi2:(decide (0≤D.aout q d) && decide (D.aout q d≤500))
          ·have HI2:=Lib.hid hi2
           go_wp2_with fail
           go_ret
           exact ⟨HMW3.out _,.inr ⟨fun v=>by have h1:=v.arc q d hlt hlt2;have h2:=HI2.out;rw [decide_eq_true h1.o0,decide_eq_true h1.o1] at h2;exact absurd h2 (by simp),rfl⟩⟩
          ·have HI2:=Lib.hid hi2
           by_cases ht0:D.ato q d < 0
           ·go_wp2_with fail
            go_ret
            exact ⟨HMW3.out _,.inr ⟨fun v=>by have h1:=(v.arc q d hlt hlt2).t0;omega,rfl⟩⟩
           ·have ht0z:decide (D.ato q d < 0)=false:=by simp;omega
            by_cases ht1:(D.n:Int)≤D.ato q d
            ·go_wp2_with fail
             go_ret
             exact ⟨HMW3.out _,.inr ⟨fun v=>by have h1:=(v.arc q d hlt hlt2).t1;omega,rfl⟩⟩
            ·have ht1z:decide ((D.n:Int)≤D.ato q d)=false:=by simp;omega
             go_wp2_with fail
             refine (HWF3.out _ (HMW3.out _)).mono ?_
             rintro r w4 ⟨rfl,hb4⟩
             have hbx4:=(HMB3.out _).kept (gb_below hb4 none) (by simp)
             have hbw4:=(HMW3.out _).trans (hb4.mono (HMW3.out _).size)
             clear hb4 mA2 e0 e1 e2 e3
             cases hw4:weightF D.kind (D.aw q d)
             ·go_wp2_with fail
              go_ret
              exact ⟨hbw4,.inr ⟨fun v=>by have h1:=(v.arc q d hlt hlt2).wt;rw [hw4] at h1;exact absurd h1 (by simp),rfl⟩⟩
             ·go_wp2_with fail
              go_roundw
              case rel =>
               refine ⟨d+1,by omega,by go_num,fun k hk=>?_,hbx4,hbw4⟩
               rcases Nat.lt_succ_iff_lt_or_eq.1 hk with h2 | h2
               ·exact HKO.out k h2
               ·subst h2
                have h3:=HI1.out
                have h4:=HI2.out
                simp only [Bool.and_eq_true,decide_eq_true_eq] at h3 h4
                exact ⟨h3.1,h3.2,h4.1,h4.2,by omega,by omega,hw4⟩
              case measure=>simp [intOf];omega
        ·have hdn:d=D.na q:=by omega
         subst hdn
         have hgt:¬ ((D.na q:Int) < (D.na q:Int)):=by omega
         go_wp2_with fail
         go_roundw
         case rel =>
          refine ⟨q+1,by omega,by go_num,rfl,by show arcsTo D q+D.na q≤30000;omega,fun l hl=>?_,HBX2.out,HBW2.out⟩
          rcases Nat.lt_succ_iff_lt_or_eq.1 hl with h2 | h2
          ·exact HOK.out l h2
          ·subst h2;exact ⟨HFW.out,HKO.out⟩
         case measure=>simp [intOf];omega
     ·have hfe:D.fin q=⟨#[]⟩:=by rw [beq_iff_eq,Lib.toList_data] at hF;exact ByteArray.ext (Array.toList_inj.1 hF)
      have HFW:=Lib.hid (show D.fin q=⟨#[]⟩∨weightF D.kind (D.fin q)=true from .inl hfe)
      clear hfe
      have HX1:=Lib.hid (HMB2.out (.cells #[.string (D.fin q),.slice aq (D.na q) (C q)] 87))
      have HX2:=Lib.hid (HMW.out (.cells #[.string (D.fin q),.slice aq (D.na q) (C q)] 87))
      go_wp2_with fail
      go_loopw [77] (fun i wr=>∃ d:Nat,d≤D.na q∧i=.int .i64 (d:Int)∧(∀ k,k < d→ArcOk D q k)∧BoxM wr mb D (.slice (some ⟨b,off,none⟩) D.n cap)∧Below w.heap.size w wr) (fun i _=>D.na q - (intOf i).toNat)
      case atStart=>exact ⟨0,Nat.zero_le _,rfl,fun k hk=>by omega,HX1.out,HX2.out⟩
      case round =>
       obtain ⟨d,hd,rfl,hko,hbx2,hbw2⟩:=hrel
       clear HX1 HX2
       have HKO:=Lib.hid hko;clear hko
       have HBX2:=Lib.hid hbx2;clear hbx2
       have HBW2:=Lib.hid hbw2;clear hbw2
       by_cases hlt2:d < D.na q
       ·have hdz:(d:Int) < (D.na q:Int):=by omega
        have hdz0:(0:Int)≤(d:Int):=by omega
        obtain rfl:=HK5.out (by omega)
        have hbq:=(HK6.out (by omega)).1
        obtain ⟨j0,j1,j2,j3⟩:=HK7.out d hlt2
        have e0:=(HBW2.out.cell (p:=⟨BB q,O q+d*4,none⟩) hbq).trans j0
        have e1:=(HBW2.out.cell (p:=⟨BB q,O q+d*4+1,none⟩) hbq).trans j1
        have e2:=(HBW2.out.cell (p:=⟨BB q,O q+d*4+2,none⟩) hbq).trans j2
        have e3:=(HBW2.out.cell (p:=⟨BB q,O q+d*4+3,none⟩) hbq).trans j3
        clear j0 j1 j2 j3
        have mA2:=fun o=>(BoxM.c0 (HBX2.out.kept (World.grownBy_alloc wr o none) (by simp)))
        have HMB3:=Lib.hid (fun o=>HBX2.out.kept (World.grownBy_alloc wr o none) (by simp))
        have HMW3:=Lib.hid (fun o=>HBW2.out.alloc HBW2.out.size o)
        have hwf3:=fun wx hb=>semiweight_any D.kind (D.aw q d) wx (HSZ.out.aw q d) (HT.out.below (B:=w.heap.size) hb (Nat.le_refl _))
        have HWF3:=Lib.hid hwf3;clear hwf3
        go_wp2_with fail
        refine (symbol_any _ _).mono ?_
        rintro r w' ⟨rfl,rfl⟩
        cases hi1:(decide (0≤D.ain q d) && decide (D.ain q d≤500))
        ·have HI1:=Lib.hid hi1
         go_wp2_with fail
         go_ret
         exact ⟨HMW3.out _,.inr ⟨fun v=>by have h1:=v.arc q d hlt hlt2;have h2:=HI1.out;rw [decide_eq_true h1.i0,decide_eq_true h1.i1] at h2;exact absurd h2 (by simp),rfl⟩⟩
        ·have HI1:=Lib.hid hi1
         go_wp2_with fail
         refine (symbol_any _ _).mono ?_
         rintro r w' ⟨rfl,rfl⟩
         cases hi2:(decide (0≤D.aout q d) && decide (D.aout q d≤500))
         ·have HI2:=Lib.hid hi2
          go_wp2_with fail
          go_ret
          exact ⟨HMW3.out _,.inr ⟨fun v=>by have h1:=v.arc q d hlt hlt2;have h2:=HI2.out;rw [decide_eq_true h1.o0,decide_eq_true h1.o1] at h2;exact absurd h2 (by simp),rfl⟩⟩
         ·have HI2:=Lib.hid hi2
          by_cases ht0:D.ato q d < 0
          ·go_wp2_with fail
           go_ret
           exact ⟨HMW3.out _,.inr ⟨fun v=>by have h1:=(v.arc q d hlt hlt2).t0;omega,rfl⟩⟩
          ·have ht0z:decide (D.ato q d < 0)=false:=by simp;omega
           by_cases ht1:(D.n:Int)≤D.ato q d
           ·go_wp2_with fail
            go_ret
            exact ⟨HMW3.out _,.inr ⟨fun v=>by have h1:=(v.arc q d hlt hlt2).t1;omega,rfl⟩⟩
           ·have ht1z:decide ((D.n:Int)≤D.ato q d)=false:=by simp;omega
            go_wp2_with fail
            refine (HWF3.out _ (HMW3.out _)).mono ?_
            rintro r w4 ⟨rfl,hb4⟩
            have hbx4:=(HMB3.out _).kept (gb_below hb4 none) (by simp)
            have hbw4:=(HMW3.out _).trans (hb4.mono (HMW3.out _).size)
            clear hb4 mA2 e0 e1 e2 e3
            cases hw4:weightF D.kind (D.aw q d)
            ·go_wp2_with fail
             go_ret
             exact ⟨hbw4,.inr ⟨fun v=>by have h1:=(v.arc q d hlt hlt2).wt;rw [hw4] at h1;exact absurd h1 (by simp),rfl⟩⟩
            ·go_wp2_with fail
             go_roundw
             case rel =>
              refine ⟨d+1,by omega,by go_num,fun k hk=>?_,hbx4,hbw4⟩
              rcases Nat.lt_succ_iff_lt_or_eq.1 hk with h2 | h2
              ·exact HKO.out k h2
              ·subst h2
               have h3:=HI1.out
               have h4:=HI2.out
               simp only [Bool.and_eq_true,decide_eq_true_eq] at h3 h4
               exact ⟨h3.1,h3.2,h4.1,h4.2,by omega,by omega,hw4⟩
             case measure=>simp [intOf];omega
       ·have hdn:d=D.na q:=by omega
        subst hdn
        have hgt:¬ ((D.na q:Int) < (D.na q:Int)):=by omega
        go_wp2_with fail
        go_roundw
        case rel =>
         refine ⟨q+1,by omega,by go_num,rfl,by show arcsTo D q+D.na q≤30000;omega,fun l hl=>?_,HBX2.out,HBW2.out⟩
         rcases Nat.lt_succ_iff_lt_or_eq.1 hl with h2 | h2
         ·exact HOK.out l h2
         ·subst h2;exact ⟨HFW.out,HKO.out⟩
        case measure=>simp [intOf];omega
   ·have hqn:q=D.n:=by omega
    subst hqn
    have hgt:¬ ((D.n:Int) < (D.n:Int)):=by omega
    obtain ⟨p1,p2,p3,p4⟩:=HPRE.out
    go_wp2_with fail
    go_ret
    exact ⟨HBW.out,.inl ⟨⟨HKB.out,p1,p2,p3,p4,hw,hac,fun i hi=>(HOK.out i hi).1,fun i k hi hk=>(HOK.out i hi).2 k hk⟩,rfl⟩⟩
end Go.Proofs.YtjekapjbigfkbaaGreatDoor

namespace Go.Proofs.YtjekapjbigfkbaaGreatDoor
open Go
set_option maxRecDepth 100000
set_option linter.unusedSimpArgs false
structure ED where
 nf:Nat
 f:Nat→Int
 nt:Nat
 t:Nat→Int
 w:ByteArray
structure EM where
 n:Nat
 e:Nat→ED
 most:Int
def wordI (n:Nat) (x:Nat→Int) (sig:Int):Prop:=∀ i,i < n→1≤x i∧x i≤sig
def costOk (s:ByteArray):Prop:=∃ q,prs s=some q∧0≤q
structure EdOk (d:ED):Prop where
 f6:d.nf≤6
 t6:d.nt≤6
 pos:0 < d.nf+d.nt
 fw:wordI d.nf d.f 500
 tw:wordI d.nt d.t 500
 wt:costOk d.w
structure VE (M:EM):Prop where
 n4:M.n≤400
 m0:0≤M.most
 m6:M.most≤6
 ok:∀ i,i < M.n→EdOk (M.e i)
def qv (s:ByteArray):Rat:=(prs s).getD 0
theorem EdOk.q0 {d:ED} (h:EdOk d):0≤qv d.w:=by obtain ⟨q,h1,h2⟩:=h.wt;unfold qv;rw [h1];exact h2
theorem EdOk.q {d:ED} (h:EdOk d):prs d.w=some (qv d.w):=by obtain ⟨q,h1,_⟩:=h.wt;unfold qv;rw [h1];rfl
structure EP where
 M:EM
 a:Nat
 x:Nat→Int
 b:Nat
 y:Nat→Int
abbrev Pl:=Nat × Nat × Nat
def bgs (a:Nat) (x:Nat→Int) (i n:Nat) (u:Nat→Int):Prop:=i+n≤a∧∀ k,k < n→x (i+k)=u k
inductive Sp (P:EP):Pl→Option Nat→Pl→Rat→Prop
 | copy {k i j:Nat}:i < P.a→j < P.b→P.x i=P.y j→Sp P (k,i,j) none (k,i+1,j+1) 0
 | edit {k i j e:Nat}:e < P.M.n→(k:Int) < P.M.most→bgs P.a P.x i (P.M.e e).nf (P.M.e e).f→bgs P.b P.y j (P.M.e e).nt (P.M.e e).t→Sp P (k,i,j) (some e) (k+1,i+(P.M.e e).nf,j+(P.M.e e).nt) (qv (P.M.e e).w)
inductive Pth (P:EP):Pl→Rat→Prop
 | start:Pth P (0,0,0) 0
 | step {p:Pl} {c:Rat} {l:Option Nat} {q:Pl} {d:Rat}:Pth P p c→Sp P p l q d→Pth P q (c+d)
theorem Sp.fn {P:EP} {p q q':Pl} {l:Option Nat} {d d':Rat} (h:Sp P p l q d) (h':Sp P p l q' d'):q=q'∧d=d':=by
 cases h <;> cases h' <;> exact ⟨rfl,rfl⟩
def InR (P:EP) (p:Pl):Prop:=(p.1:Int)≤P.M.most∧p.2.1≤P.a∧p.2.2≤P.b
theorem Sp.inR {P:EP} {p q:Pl} {l:Option Nat} {d:Rat} (h:Sp P p l q d) (hp:InR P p):InR P q:=by
 obtain ⟨h1,h2,h3⟩:=hp
 cases h with
 | copy a b _=>exact ⟨h1,by show _+1≤P.a;omega,by show _+1≤P.b;omega⟩
 | edit a b c d=>exact ⟨by show ((_+1:Nat):Int)≤_;omega,c.1,d.1⟩
theorem Pth.inR {P:EP} (h0:0≤P.M.most) {p:Pl} {c:Rat} (h:Pth P p c):InR P p:=by
 induction h with
 | start=>exact ⟨h0,Nat.zero_le _,Nat.zero_le _⟩
 | step _ hs ih=>exact hs.inR ih
abbrev TbE:=Pl→Option Rat
def relx (T:TbE) (q:Pl) (v:Rat):TbE:=fun r=>if r=q then (match T q with | none=>some v | some u=>if v < u then some v else some u) else T r
structure Dp (P:EP) (Done:Pl→Option Nat→Prop) (T:TbE):Prop where
 sound:∀ q c,T q=some c→Pth P q c
 zero:∃ c,T (0,0,0)=some c∧c≤0
 done:∀ p l c q d,Done p l→T p=some c→Sp P p l q d→∃ u,T q=some u∧u≤c+d
theorem Dp.start (P:EP):Dp P (fun _ _=>False) (fun q=>if q=(0,0,0) then some 0 else none):=by
 refine ⟨fun q c h=>?_,⟨0,by simp,Rat.le_refl⟩,fun _ _ _ _ _ h=>h.elim⟩
 by_cases e:q=(0,0,0)
 ·subst e;simp at h;subst h;exact .start
 ·simp [e] at h
theorem relx_le {T:TbE} {q:Pl} {v:Rat} {r:Pl} {u:Rat} (h:T r=some u):∃ u',relx T q v r=some u'∧u'≤u:=by
 unfold relx
 by_cases e:r=q
 ·subst e
  rw [if_pos rfl,h]
  by_cases e2:v < u
  ·exact ⟨v,by simp [e2],Rat.le_of_lt e2⟩
  ·exact ⟨u,by simp [e2],Rat.le_refl⟩
 ·exact ⟨u,by rw [if_neg e];exact h,Rat.le_refl⟩
theorem relx_new (T:TbE) (q:Pl) (v:Rat):∃ u',relx T q v q=some u'∧u'≤v:=by
 unfold relx
 rw [if_pos rfl]
 cases h:T q with
 | none=>exact ⟨v,rfl,Rat.le_refl⟩
 | some u =>
  by_cases e2:v < u
  ·exact ⟨v,by simp [e2],Rat.le_refl⟩
  ·exact ⟨u,by simp [e2],Rat.not_lt.1 e2⟩
theorem relx_ne {T:TbE} {q r:Pl} {v:Rat} (h:r≠q):relx T q v r=T r:=if_neg h
theorem Dp.fits {P:EP} {Done Done':Pl→Option Nat→Prop} {T:TbE} (h:Dp P Done T) (hd:∀ p l c q d,Done' p l→T p=some c→Sp P p l q d→Done p l):Dp P Done' T :=
 ⟨h.sound,h.zero,fun p l c q d h1 h2 h3=>h.done p l c q d (hd p l c q d h1 h2 h3) h2 h3⟩
theorem Dp.step {P:EP} {Done Done':Pl→Option Nat→Prop} {T:TbE} {p q:Pl} {l:Option Nat} {c d:Rat} (h:Dp P Done T) (hp:T p=some c) (hs:Sp P p l q d) (hq:∀ l',¬ Done' q l')
  (hd:∀ p' l',Done' p' l'→Done p' l'∨(p'=p∧l'=l)):Dp P Done' (relx T q (c+d)):=by
 refine ⟨fun r u hr=>?_,?_,fun p' l' c' q' d' h1 h2 h3=>?_⟩
 ·by_cases e:r=q
  ·subst e
   unfold relx at hr
   rw [if_pos rfl] at hr
   cases ht:T r with
   | none=>rw [ht] at hr;simp at hr;subst hr;exact .step (h.sound p c hp) hs
   | some u' =>
    rw [ht] at hr
    by_cases e2:c+d < u'
    ·simp [e2] at hr;subst hr;exact .step (h.sound p c hp) hs
    ·simp [e2] at hr;subst hr;exact h.sound _ _ ht
  ·rw [relx_ne e] at hr;exact h.sound r u hr
 ·obtain ⟨u,h1,h2⟩:=h.zero
  obtain ⟨u',h3,h4⟩:=relx_le (q:=q) (v:=c+d) h1
  exact ⟨u',h3,Rat.le_trans h4 h2⟩
 ·have hne:p'≠q:=fun e=>hq l' (e ▸ h1)
  rw [relx_ne hne] at h2
  rcases hd p' l' h1 with h4 | ⟨rfl,rfl⟩
  ·obtain ⟨u,h5,h6⟩:=h.done p' l' c' q' d' h4 h2 h3
   obtain ⟨u',h7,h8⟩:=relx_le (q:=q) (v:=c+d) h5
   exact ⟨u',h7,Rat.le_trans h8 h6⟩
  ·obtain ⟨rfl,rfl⟩:=hs.fn h3
   rw [hp] at h2;cases h2
   exact relx_new T q (c+d)
theorem Dp.least {P:EP} {Done:Pl→Option Nat→Prop} {T:TbE} (h:Dp P Done T) (h0:0≤P.M.most) (hd:∀ p l,InR P p→Done p l) {q:Pl} {c:Rat} (hp:Pth P q c):∃ u,T q=some u∧u≤c:=by
 induction hp with
 | start=>exact h.zero
 | step h1 h2 ih =>
  obtain ⟨u,h3,h4⟩:=ih
  obtain ⟨u',h5,h6⟩:=h.done _ _ _ _ _ (hd _ _ (h1.inR h0)) h3 h2
  exact ⟨u',h5,Rat.le_trans h6 (Rat.add_le_add_right.2 h4)⟩
def Dn (k i j:Nat) (L:Option Nat→Prop) (p:Pl) (l:Option Nat):Prop:=p.1 < k∨(p.1=k∧(p.2.1 < i∨(p.2.1=i∧(p.2.2 < j∨(p.2.2=j∧L l)))))
def Lb (m:Nat) (l:Option Nat):Prop:=l=none∨∃ e,e < m∧l=some e
theorem Sp.later {P:EP} {k i j:Nat} {q:Pl} {l:Option Nat} {d:Rat} (h:Sp P (k,i,j) l q d) (L:Option Nat→Prop):∀ l',¬ Dn k i j L q l':=by
 intro l' hd
 cases h with
 | copy=>rcases hd with h1 | ⟨_,h1 | ⟨h1,_⟩⟩ <;> simp at h1 <;> omega
 | edit=>rcases hd with h1 | ⟨h1,_⟩ <;> simp at h1 <;> omega
def IsCost (P:EP) (o:Option Rat):Prop:=(o=none∧∀ k c,¬ Pth P (k,P.a,P.b) c)∨∃ c k,o=some c∧Pth P (k,P.a,P.b) c∧∀ k' c',Pth P (k',P.a,P.b) c'→c≤c'
theorem IsCost.only {P:EP} {o o':Option Rat} (h:IsCost P o) (h':IsCost P o'):o=o':=by
 rcases h with ⟨rfl,h1⟩ | ⟨c,k,rfl,h1,h2⟩ <;> rcases h' with ⟨rfl,h3⟩ | ⟨c',k',rfl,h3,h4⟩
 ·rfl
 ·exact absurd h3 (h1 _ _)
 ·exact absurd h1 (h3 _ _)
 ·rw [Rat.le_antisymm (h2 _ _ h3) (h4 _ _ h1)]
def lstO (T:TbE) (a b:Nat):Nat→Option Rat
 | 0=>none
 | m+1=>match lstO T a b m,T (m,a,b) with
  | o,none=>o
  | none,some v=>some v
  | some u,some v=>if v < u then some v else some u
theorem lstO_le {T:TbE} {a b:Nat}:∀ {m k:Nat} {v:Rat},k < m→T (k,a,b)=some v→∃ u,lstO T a b m=some u∧u≤v
 | 0,_,_,h,_=>by omega
 | m+1,k,v,h,hv=>by
  by_cases e:k=m
  ·subst e
   unfold lstO
   rw [hv]
   cases h1:lstO T a b k with
   | none=>exact ⟨v,rfl,Rat.le_refl⟩
   | some u =>
    by_cases e2:v < u
    ·exact ⟨v,by simp [e2],Rat.le_refl⟩
    ·exact ⟨u,by simp [e2],Rat.not_lt.1 e2⟩
  ·obtain ⟨u,h1,h2⟩:=lstO_le (T:=T) (a:=a) (b:=b) (m:=m) (by omega) hv
   unfold lstO
   rw [h1]
   cases h3:T (m,a,b) with
   | none=>exact ⟨u,rfl,h2⟩
   | some v' =>
    by_cases e2:v' < u
    ·exact ⟨v',by simp [e2],Rat.le_trans (Rat.le_of_lt e2) h2⟩
    ·exact ⟨u,by simp [e2],h2⟩
theorem lstO_mem {T:TbE} {a b:Nat}:∀ {m:Nat} {u:Rat},lstO T a b m=some u→∃ k,k < m∧T (k,a,b)=some u
 | 0,_,h=>by simp [lstO] at h
 | m+1,u,h=>by
  unfold lstO at h
  cases h1:lstO T a b m with
  | none =>
   cases h2:T (m,a,b) with
   | none=>rw [h1,h2] at h;simp at h
   | some v=>rw [h1,h2] at h;simp at h;subst h;exact ⟨m,by omega,h2⟩
  | some u' =>
   have ih:=lstO_mem h1
   cases h2:T (m,a,b) with
   | none=>rw [h1,h2] at h;simp at h;subst h;obtain ⟨k,h3,h4⟩:=ih;exact ⟨k,by omega,h4⟩
   | some v =>
    rw [h1,h2] at h
    by_cases e:v < u'
    ·simp [e] at h;subst h;exact ⟨m,by omega,h2⟩
    ·simp [e] at h;subst h;obtain ⟨k,h3,h4⟩:=ih;exact ⟨k,by omega,h4⟩
theorem Dp.cost {P:EP} {Done:Pl→Option Nat→Prop} {T:TbE} (h:Dp P Done T) (h0:0≤P.M.most) (hd:∀ p l,InR P p→Done p l):IsCost P (lstO T P.a P.b (P.M.most.toNat+1)):=by
 have hk:∀ {k:Nat} {c:Rat},Pth P (k,P.a,P.b) c→∃ u,lstO T P.a P.b (P.M.most.toNat+1)=some u∧u≤c:=fun {k c} hp=>by
  obtain ⟨u,h1,h2⟩:=h.least h0 hd hp
  have h3:=(hp.inR h0).1
  obtain ⟨u',h4,h5⟩:=lstO_le (m:=P.M.most.toNat+1) (by show k < _;have:(k:Int)≤P.M.most:=h3;omega) h1
  exact ⟨u',h4,Rat.le_trans h5 h2⟩
 cases ho:lstO T P.a P.b (P.M.most.toNat+1) with
 | none=>exact .inl ⟨rfl,fun k c hp=>by obtain ⟨u,h1,_⟩:=hk hp;rw [ho] at h1;cases h1⟩
 | some u =>
  obtain ⟨k,_,h2⟩:=lstO_mem ho
  exact .inr ⟨u,k,rfl,h.sound _ _ h2,fun k' c' hp=>by obtain ⟨u',h3,h4⟩:=hk hp;rw [ho] at h3;cases h3;exact h4⟩
def costT:Option Rat→ByteArray
 | none=>infS
 | some q=>txt q
def TooL (P:EP):Prop:=∃ p c l q d,Pth P p c∧Sp P p l q d∧¬ fitQ (c+d)
end Go.Proofs.YtjekapjbigfkbaaGreatDoor
