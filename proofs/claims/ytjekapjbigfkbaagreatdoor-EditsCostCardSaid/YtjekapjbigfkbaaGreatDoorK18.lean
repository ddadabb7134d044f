/- Parts of a proof: EdM EdV WgL C3 CloC. -/
import Derived.Test.YtjekapjbigfkbaaGreatDoorK17
import Derived.Deep.QuietTactic
import Derived.BigQuiet
import Derived.Test.YtjekapjbigfkbaaGreatDoorK16
import Derived.Deep.RegionHeld2
import Derived.Deep.LoopGhost
import Derived.Deep.Light
import Derived.OwnWalk
import Derived.Deep.RegionLaw
namespace Go.Proofs.YtjekapjbigfkbaaGreatDoor
open Go Go.RowKit Go.Deep
set_option maxRecDepth 100000
set_option linter.unusedSimpArgs false
def Si (z:Option Nat) (w:World) (v:Value) (n:Nat) (x:Nat→Int):Prop:=Rd z w v n fun i=>.int .i64 (x i)
def EdS (z:Option Nat) (w:World) (v:Value) (M:EM):Prop :=
 (M.n=0∧∃ a cap,v=.slice a 0 cap∧cap≤maxLen)∨∃ b off cap,∃ F T:Nat→Value,v=.slice (some ⟨b,off,none⟩) M.n cap∧(b < w.heap.size∧some b≠z)∧M.n≤cap∧cap≤maxLen∧∀ i,i < M.n →
  w.cell? ⟨b,off+i*3,none⟩=some (F i)∧w.cell? ⟨b,off+i*3+1,none⟩=some (T i)∧w.cell? ⟨b,off+i*3+2,none⟩=some (.string (M.e i).w)∧Si z w (F i) (M.e i).nf (M.e i).f∧Si z w (T i) (M.e i).nt (M.e i).t
theorem EdS.kept {z:Option Nat} {w w':World} {v:Value} {M:EM} (h:EdS z w v M) (hg:w.grownBy w' z):EdS z w' v M:=by
 rcases h with h | ⟨b,off,cap,F,T,hv,h1,h2,h3,h4⟩
 ·exact .inl h
 ·refine .inr ⟨b,off,cap,F,T,hv,⟨Nat.lt_of_lt_of_le h1.1 hg.size,h1.2⟩,h2,h3,fun i hi=>?_⟩
  obtain ⟨c1,c2,c3,c4,c5⟩:=h4 i hi
  exact ⟨hg.cell c1 h1.2,hg.cell c2 h1.2,hg.cell c3 h1.2,c4.kept hg,c5.kept hg⟩
theorem EdS.open {z:Option Nat} {w:World} {v:Value} {M:EM} (h:EdS z w v M):∃ a cap b off,∃ (A A':Nat→Option Addr) (C C':Nat→Nat),v=.slice a M.n cap∧(0 < M.n→a=some ⟨b,off,none⟩)∧M.n≤cap∧cap≤maxLen∧(0 < M.n→b < w.heap.size∧some b≠z) ∧
  ∀ i,i < M.n→w.cell? ⟨b,off+i*3,none⟩=some (.slice (A i) (M.e i).nf (C i))∧w.cell? ⟨b,off+i*3+1,none⟩=some (.slice (A' i) (M.e i).nt (C' i))∧w.cell? ⟨b,off+i*3+2,none⟩=some (.string (M.e i).w) ∧
   Si z w (.slice (A i) (M.e i).nf (C i)) (M.e i).nf (M.e i).f∧Si z w (.slice (A' i) (M.e i).nt (C' i)) (M.e i).nt (M.e i).t:=by
 rcases h with ⟨h0,a,cap,rfl,hm⟩ | ⟨b,off,cap,F,T,rfl,h1,h2,h3,h4⟩
 ·exact ⟨a,cap,0,0,fun _=>none,fun _=>none,fun _=>0,fun _=>0,by rw [h0],by omega,by omega,hm,by omega,fun i hi=>by omega⟩
 ·classical
  have hall:∀ i,∃ t:(Option Addr × Nat) × (Option Addr × Nat),i < M.n→F i=.slice t.1.1 (M.e i).nf t.1.2∧T i=.slice t.2.1 (M.e i).nt t.2.2:=fun i=>by
   by_cases hi:i < M.n
   ·obtain ⟨_,_,_,c4,c5⟩:=h4 i hi
    obtain ⟨a1,k1,e1⟩:=c4.shape
    obtain ⟨a2,k2,e2⟩:=c5.shape
    exact ⟨((a1,k1),(a2,k2)),fun _=>⟨e1,e2⟩⟩
   ·exact ⟨((none,0),(none,0)),fun h=>absurd h hi⟩
  refine ⟨_,cap,b,off,fun i=>(Classical.choose (hall i)).1.1,fun i=>(Classical.choose (hall i)).2.1,fun i=>(Classical.choose (hall i)).1.2,fun i=>(Classical.choose (hall i)).2.2,rfl,fun _=>rfl,h2,h3,fun _=>h1,fun i hi=>?_⟩
  obtain ⟨k1,k2⟩:=Classical.choose_spec (hall i) hi
  obtain ⟨c1,c2,c3,c4,c5⟩:=h4 i hi
  rw [k1] at c1 c4
  rw [k2] at c2 c5
  exact ⟨c1,c2,c3,c4,c5⟩
def Em (z:Option Nat) (w:World) (v:Value) (M:EM):Prop:=∃ sv,v=.agg #[sv,.int .i64 M.most]∧EdS z w sv M
structure ESz (M:EM):Prop where
 n:(M.n:Int)≤9223372036854775807
 f:∀ i,((M.e i).nf:Int)≤4611686018427387903
 t:∀ i,((M.e i).nt:Int)≤4611686018427387903
 w:∀ i,((M.e i).w.size:Int)≤9223372036854775807
 m0:-9223372036854775808≤M.most
 m1:M.most≤9223372036854775807
def TstF (nf:FuncId) (cap:Array Value) (p:Int→Bool) (w:World):Prop :=
 (∀ args w,(callFunc nf args).run Tryz.prog w=.ok (.enter nf args) w)∧∀ s:Int,Calls Tryz.prog nf (#[.int .i64 s]++cap) w (fun r w'=>r=.returned (.bool (p s))∧w'=w)
def anyI (n:Nat) (x:Nat→Int) (p:Int→Bool):Bool:=(List.range n).any fun i=>p (x i)
theorem anyI_iff {n:Nat} {x:Nat→Int} {p:Int→Bool}:anyI n x p=true↔∃ i,i < n∧p (x i)=true:=by simp [anyI]
set_option maxHeartbeats 4000000 in
theorem idxf_any {n nf:Nat} {cap0:Array Value} {v:Value} {x:Nat→Int} {p:Int→Bool} (w:World) (hx:Si none w v n x) (hn:(n:Int)≤9223372036854775807) (ht:TstF nf cap0 p w) :
  Calls Tryz.prog 129 #[v,.func (.func nf) #[] cap0] w (fun r w'=>w'=w∧∃ k:Int,r=.returned (.int .i64 k)∧(decide (0≤k)=anyI n x p)):=by
 obtain ⟨a,cap,b,off,rfl,ha,hc,hm,hb,hcell⟩:=hx.open
 unfold maxLen at hm
 obtain ⟨hen,htst⟩:=ht
 have HA:=Lib.hid ha;clear ha
 have HB:=Lib.hid hb;clear hb
 have HX:=Lib.hid hcell;clear hcell hx
 have HT:=Lib.hid htst;clear htst
 go_enter Tryz.func129,Tryz.ntmps129
 go_wp2_with fail
 go_loop [8] (fun i=>∃ q:Nat,q≤n∧i=.int .i64 (q:Int)∧∀ j,j < q→p (x j)=false) (fun i=>n - (intOf i).toNat)
 case atStart=>exact ⟨0,Nat.zero_le _,rfl,fun j hj=>by omega⟩
 case round =>
  obtain ⟨q,hq,rfl,hno⟩:=hrel
  have HNO:=Lib.hid hno;clear hno
  by_cases hlt:q < n
  ·have hqz:(q:Int) < (n:Int):=by omega
   have hqz0:(0:Int)≤(q:Int):=by omega
   obtain rfl:=HA.out (by omega)
   have c0:=HX.out q hlt
   have hcall:=HT.out (x q)
   have HC:=Lib.hid hcall;clear hcall
   go_wp2_with fail
   refine HC.out.mono ?_
   rintro r w1 ⟨rfl,rfl⟩
   cases hp:p (x q)
   ·have HP:=Lib.hid hp;clear hp
    go_wp2_with fail
    go_round
    case rel=>exact ⟨q+1,by omega,by go_num,fun j hj=>by
     by_cases e:j=q
     ·subst e;exact HP.out
     ·exact HNO.out j (by omega)⟩
    case measure=>simp [intOf];omega
   ·have HP:=Lib.hid hp;clear hp
    go_wp2_with fail
    go_ret
    refine ⟨rfl,_,rfl,?_⟩
    have h1:anyI n x p=true:=anyI_iff.2 ⟨q,hlt,HP.out⟩
    rw [h1];simp
  ·have hqn:q=n:=by omega
   have hgt:¬ ((q:Int) < (n:Int)):=by omega
   have HQ:=Lib.hid hqn;clear hqn
   go_wp2_with fail
   go_ret
   refine ⟨rfl,_,rfl,?_⟩
   have h1:anyI n x p=false:=by
    cases h2:anyI n x p
    ·rfl
    ·obtain ⟨i,h3,h4⟩:=anyI_iff.1 h2
     rw [HNO.out i (by rw [HQ.out];exact h3)] at h4;cases h4
   rw [h1];rfl
theorem contains_any {n nf:Nat} {cap0:Array Value} {v:Value} {x:Nat→Int} {p:Int→Bool} (w:World) (hx:Si none w v n x) (hn:(n:Int)≤9223372036854775807) (ht:TstF nf cap0 p w) :
  Calls Tryz.prog 89 #[v,.func (.func nf) #[] cap0] w (fun r w'=>r=.returned (.bool (anyI n x p))∧w'=w):=by
 have HI:=Lib.hid (idxf_any w hx hn ht)
 clear hx hn ht
 go_enter Tryz.func89,Tryz.ntmps89
 go_wp2_with fail
 refine HI.out.mono ?_
 rintro r w1 ⟨rfl,k,rfl,hk⟩
 have HK:=Lib.hid hk;clear hk
 go_wp2_with fail
 go_ret
 exact ⟨ret_bool HK.out,rfl⟩
theorem enterSym:∀ args w,(callFunc 90 args).run Tryz.prog w=.ok (.enter 90 args) w:=fun args w=>by kernel_rfl
def offI (sig s:Int):Bool:=decide (s < 1) || decide (sig < s)
def wordB (n:Nat) (x:Nat→Int) (sig:Int):Bool:=!anyI n x (offI sig)
theorem wordB_iff {n:Nat} {x:Nat→Int} {sig:Int}:wordB n x sig=true↔wordI n x sig:=by
 unfold wordB
 rw [Bool.not_eq_true',Bool.eq_false_iff]
 constructor
 ·intro h i hi
  cases h2:offI sig (x i)
  ·unfold offI at h2;simp at h2;omega
  ·exact absurd (anyI_iff.2 ⟨i,hi,h2⟩) h
 ·intro h h1
  obtain ⟨i,h2,h3⟩:=anyI_iff.1 h1
  have:=h i h2
  unfold offI at h3;simp at h3;omega
theorem wordB_not {n:Nat} {x:Nat→Int} {sig:Int}:wordB n x sig=false↔¬ wordI n x sig:=by
 rw [← wordB_iff];simp
def eqB (n m:Nat) (x y:Nat→Int):Bool:=decide (n=m) && (List.range n).all fun k=>x k == y k
theorem eqB_iff {n m:Nat} {x y:Nat→Int}:eqB n m x y=true↔n=m∧∀ k,k < n→x k=y k:=by simp [eqB]
theorem eqB_not {n m:Nat} {x y:Nat→Int} (h:¬ (n=m∧∀ k,k < n→x k=y k)):eqB n m x y=false:=by
 cases e:eqB n m x y
 ·rfl
 ·exact absurd (eqB_iff.1 e) h
theorem sym1_any {sb:Nat} {sig:Int} (w:World) (h:w.cell? ⟨sb,0,none⟩=some (.int .i64 sig)) (s:Int) :
  Calls Tryz.prog 90 #[.int .i64 s,.pointer (some ⟨sb,0,none⟩)] w (fun r w'=>r=.returned (.bool (offI sig s))∧w'=w):=by
 by_cases h1:s < 1
 ·go_enter Tryz.func90,Tryz.ntmps90
  go_wp2_with fail
  go_ret
  exact ⟨ret_bool (by simp [offI,h1]),rfl⟩
 ·have h1':decide (s < 1)=false:=by simp;omega
  go_enter Tryz.func90,Tryz.ntmps90
  go_wp2_with fail
  go_ret
  exact ⟨ret_bool (by simp [offI,h1']),rfl⟩
theorem symbols_any {n:Nat} {v:Value} {x:Nat→Int} {sig:Int} (w:World) (hx:Si none w v n x) (hn:(n:Int)≤9223372036854775807) :
  Calls Tryz.prog 39 #[v,.int .i64 sig] w (fun r w'=>r=.returned (.bool (wordB n x sig))∧Below w.heap.size w w'):=by
 obtain ⟨wm,hwm⟩:∃ wm,wm=w.alloc (.cells #[.int .i64 sig] 3):=⟨_,rfl⟩
 obtain ⟨sb,hsb⟩:∃ sb,sb=w.heap.size:=⟨_,rfl⟩
 have hbel:=(Below.refl w.heap.size w).alloc (Nat.le_refl _) (.cells #[.int .i64 sig] 3)
 have hcl:(w.alloc (.cells #[.int .i64 sig] 3)).cell? ⟨w.heap.size,0,none⟩=some (.int .i64 sig):=cell_new w _ _ 0 _ rfl
 have hx1:Si none wm v n x:=by rw [hwm];exact Rd.kept hx (World.grownBy_alloc _ _ _)
 rw [← hwm,← hsb] at hcl
 rw [← hwm] at hbel
 have htf:TstF 90 #[.pointer (some ⟨sb,0,none⟩)] (offI sig) wm:=⟨enterSym,fun s=>sym1_any wm hcl s⟩
 have hct:=contains_any wm hx1 hn htf
 clear htf
 obtain ⟨a,cap,rfl⟩:=hx.shape
 have HC:=Lib.hid hct;clear hct hcl hx hx1
 have HB:=Lib.hid hbel;clear hbel
 have hmf:∀ (fn:Fn) (first cap:Array Value) (w:World),(Instr.makeFunc fn first cap).run Tryz.prog w=.ok (.func fn first cap) w:=fun _ _ _ _=>rfl
 go_enter Tryz.func39,Tryz.ntmps39
 go_wp2_with fail
 rw [← hwm,← hsb]
 clear hwm hsb
 refine HC.out.mono ?_
 rintro r w1 ⟨rfl,rfl⟩
 go_wp2_with fail
 go_ret
 exact ⟨rfl,HB.out⟩
set_option maxHeartbeats 4000000 in
theorem equal_any {n m:Nat} {v v':Value} {x y:Nat→Int} (w:World) (hx:Si none w v n x) (hy:Si none w v' m y) (hn:(n:Int)≤9223372036854775807) (hm':(m:Int)≤9223372036854775807) :
  Calls Tryz.prog 167 #[v,v'] w (fun r w'=>r=.returned (.bool (eqB n m x y))∧Below w.heap.size w w'):=by
 obtain ⟨a,cap,b,off,rfl,ha,hc,hm,hb,hcell⟩:=hx.open
 obtain ⟨a',cap',b',off',rfl,ha',hc',hm'',hb',hcell'⟩:=hy.open
 unfold maxLen at hm hm''
 clear hx hy
 have HA:=Lib.hid ha;clear ha
 have HB:=Lib.hid hb;clear hb
 have HX:=Lib.hid hcell;clear hcell
 have HA':=Lib.hid ha';clear ha'
 have HB':=Lib.hid hb';clear hb'
 have HX':=Lib.hid hcell';clear hcell'
 by_cases hnm:n=m
 ·subst hnm
  go_enter Tryz.func167,Tryz.ntmps167
  go_wp2_with fail
  go_loopw [13] (fun i wr=>∃ q:Nat,q≤n∧i=.int .i64 (q:Int)∧(∀ j,j < q→x j=y j)∧Below w.heap.size w wr) (fun i _=>n - (intOf i).toNat)
  case atStart=>exact ⟨0,Nat.zero_le _,rfl,fun j hj=>by omega,Below.refl _ _⟩
  case round =>
   obtain ⟨q,hq,rfl,hno,hbw⟩:=hrel
   have HBW:=Lib.hid hbw;clear hbw
   have HNO:=Lib.hid hno;clear hno
   by_cases hlt:q < n
   ·have hqz:(q:Int) < (n:Int):=by omega
    have hqz0:(0:Int)≤(q:Int):=by omega
    obtain rfl:=HA.out (by omega)
    obtain rfl:=HA'.out (by omega)
    have c0:=(HBW.out.cell (p:=⟨b,off+q,none⟩) (HB.out (by omega)).1).trans (HX.out q hlt)
    have c1:=(HBW.out.cell (p:=⟨b',off'+q,none⟩) (HB'.out (by omega)).1).trans (HX'.out q hlt)
    by_cases he:x q=y q
    ·have he':decide (x q=y q)=true:=by simp [he]
     rw [← he] at c1
     go_wp2_with fail
     go_quiet (fail)
     go_wp2_with fail
     go_roundw
     case rel =>
      refine ⟨q+1,by omega,by go_num,fun j hj=>?_,below_drewN HBW.out nq⟩
      by_cases e:j=q
      ·subst e;exact he
      ·exact HNO.out j (by omega)
     case measure=>simp [intOf];omega
    ·have HE:=Lib.hid he
     go_wp2_with fail
     go_quiet (fail)
     go_wp2_with fail
     go_ret
     exact ⟨ret_bool (eqB_not (fun h=>HE.out (h.2 q hlt))).symm,below_drewN HBW.out nq⟩
   ·have hqn:q=n:=by omega
    have hgt:¬ ((q:Int) < (n:Int)):=by omega
    have HQ:=Lib.hid hqn;clear hqn
    go_wp2_with fail
    go_ret
    exact ⟨ret_bool (eqB_iff.2 ⟨rfl,fun i hi=>HNO.out i (by rw [HQ.out];exact hi)⟩).symm,HBW.out⟩
 ·have hne:¬ (n:Int)=(m:Int):=by omega
  go_enter Tryz.func167,Tryz.ntmps167
  go_wp2_with fail
  go_ret
  exact ⟨ret_bool (eqB_not (fun h=>hnm h.1)).symm,Below.refl _ _⟩
theorem Rd.cut {z:Option Nat} {w:World} {a:Option Addr} {n cap:Nat} {f:Nat→Value} (h:Rd z w (.slice a n cap) n f) {m:Nat} (hm:m≤n):Rd z w (.slice a m cap) m f:=by
 rcases h with ⟨rfl,a',c',hv,hc⟩ | ⟨b,off,c',hv,h1,h2,h3,h4⟩
 ·have:m=0:=by omega
  subst this
  cases hv;exact .inl ⟨rfl,_,_,rfl,hc⟩
 ·cases hv
  exact .inr ⟨b,off,cap,rfl,h1,by omega,h3,fun i hi=>h4 i (by omega)⟩
def bgB (n m:Nat) (x y:Nat→Int):Bool:=decide (m≤n) && (List.range m).all fun k=>x k == y k
theorem bgB_eq {n m:Nat} {x y:Nat→Int} (h:m≤n):bgB n m x y=eqB m m x y:=by simp [bgB,eqB,h]
theorem begins_any {n m:Nat} {v v':Value} {x y:Nat→Int} (w:World) (hx:Si none w v n x) (hy:Si none w v' m y) (hm':(m:Int)≤9223372036854775807) :
  Calls Tryz.prog 131 #[v,v'] w (fun r w'=>r=.returned (.bool (bgB n m x y))∧Below w.heap.size w w'):=by
 obtain ⟨a,cap,b,off,rfl,ha,hc,hm,hb,hcell⟩:=hx.open
 obtain ⟨a',cap',b',off',rfl,ha',hc',hm'',hb',hcell'⟩:=hy.open
 unfold maxLen at hm hm''
 by_cases hmn:m≤n
 ·have hz:(m:Int)≤(n:Int):=by omega
  have hz0:(0:Int)≤(m:Int):=by omega
  have hzc:(m:Int)≤(cap:Int):=by omega
  have heq:=equal_any w (hx.cut hmn) hy (by omega) hm'
  have HE:=Lib.hid heq;clear heq
  have HM:=Lib.hid hmn;clear hmn ha hb hcell ha' hb' hcell' hx hy
  go_enter Tryz.func131,Tryz.ntmps131
  go_wp2_with fail
  refine HE.out.mono ?_
  rintro r w1 ⟨rfl,hb⟩
  have HBB:=Lib.hid hb;clear hb
  go_wp2_with fail
  go_ret
  exact ⟨ret_bool (bgB_eq HM.out).symm,HBB.out⟩
 ·have hz:decide ((m:Int)≤(n:Int))=false:=by simp;omega
  clear ha hb hcell ha' hb' hcell' hx hy
  go_enter Tryz.func131,Tryz.ntmps131
  go_wp2_with fail
  go_ret
  exact ⟨ret_bool (by simp [bgB,hmn]),Below.refl _ _⟩
def costB (s:ByteArray):Bool:=match prs s with | some q=>decide (0≤q) | none=>false
theorem costB_iff {s:ByteArray}:costB s=true↔costOk s:=by
 unfold costB costOk
 cases h:prs s <;> simp
theorem cost_any (s:ByteArray) (w:World) (hs:s.size≤9223372036854775807) (ht:Tab w):Calls Tryz.prog 40 #[.string s] w (fun r w'=>r=.returned (.bool (costB s))∧Below w.heap.size w w'):=by
 have hv:=qvalid_any s w hs ht
 cases hp:prs s with
 | none =>
  rw [hp] at hv
  have HV:=Lib.hid hv;clear hv
  have HP:=Lib.hid hp;clear hp ht
  go_enter Tryz.func40,Tryz.ntmps40
  go_wp2_with fail
  refine HV.out.mono ?_
  rintro r w1 ⟨rfl,hb⟩
  have HB:=Lib.hid hb;clear hb
  go_wp2_with fail
  go_ret
  exact ⟨ret_bool (by unfold costB;rw [HP.out]),HB.out⟩
 | some q =>
  rw [hp] at hv
  have hpz:prs ⟨#[48]⟩=some 0:=by decide +kernel
  have hcz:qcmpF s ⟨#[48]⟩=cmpQ q 0:=by unfold qcmpF;rw [hp,hpz]
  have hc:=fun w1 (hb:Below w.heap.size w w1)=>qcmp_any s ⟨#[48]⟩ w1 hs (by decide) (ht.below hb (Nat.le_refl _))
  rw [hcz] at hc
  have HC:=Lib.hid hc;clear hc hcz hpz
  have HV:=Lib.hid hv;clear hv
  have HP:=Lib.hid hp;clear hp ht
  go_enter Tryz.func40,Tryz.ntmps40
  go_wp2_with fail
  refine HV.out.mono ?_
  rintro r w1 ⟨rfl,hb⟩
  have hc1:=HC.out w1 hb
  have HB:=Lib.hid hb;clear hb
  have HC1:=Lib.hid hc1;clear hc1 HC
  go_wp2_with fail
  refine HC1.out.mono ?_
  rintro r w2 ⟨rfl,hb2⟩
  have HB2:=Lib.hid (HB.out.trans (hb2.mono HB.out.size));clear hb2
  go_wp2_with fail
  go_ret
  exact ⟨ret_bool (by
   unfold costB;rw [HP.out]
   rcases cmpQ_cases q 0 with ⟨h,e⟩ | ⟨h,e⟩ | ⟨h,e⟩ <;> rw [e]
   ·simp [Rat.not_le.2 h]
   ·subst h;simp
   ·simp [Rat.le_of_lt h]),HB2.out⟩
end Go.Proofs.YtjekapjbigfkbaaGreatDoor

namespace Go.Proofs.YtjekapjbigfkbaaGreatDoor
open Go Go.RowKit Go.Deep
set_option maxRecDepth 100000
set_option linter.unusedSimpArgs false
def BoxE (wr:World) (mb:Nat) (M:EM) (sv:Value):Prop:=wr.heap[mb]?=some (.cells #[sv,.int .i64 M.most] 24 (0,0))
theorem BoxE.c0 {wr:World} {mb:Nat} {M:EM} {sv:Value} (h:BoxE wr mb M sv):wr.cell? ⟨mb,0,none⟩=some sv:=by unfold BoxE at h;simp [World.cell?,h]
theorem BoxE.c1 {wr:World} {mb:Nat} {M:EM} {sv:Value} (h:BoxE wr mb M sv):wr.cell? ⟨mb,1,none⟩=some (.int .i64 M.most):=by unfold BoxE at h;simp [World.cell?,h]
theorem BoxE.lt {wr:World} {mb:Nat} {M:EM} {sv:Value} (h:BoxE wr mb M sv):mb < wr.heap.size:=(Array.getElem?_eq_some_iff.1 h).1
theorem BoxE.kept {wr w':World} {mb:Nat} {M:EM} {sv:Value} {z:Option Nat} (h:BoxE wr mb M sv) (hg:wr.grownBy w' z) (hz:some mb≠z):BoxE w' mb M sv:=by
 unfold BoxE;rw [hg.block mb h.lt hz];exact h
theorem BoxE.new (w:World) (M:EM) (sv:Value):BoxE (w.alloc (.cells #[sv,.int .i64 M.most] 24)) w.heap.size M sv:=heap_alloc_new w _
def EvE (M:EM) (w:World) (r:Ending) (w':World):Prop:=Below w.heap.size w w'∧((VE M∧r=.returned (.bool true))∨(¬ VE M∧r=.returned (.bool false)))
set_option maxHeartbeats 8000000 in
theorem evalid_any {M:EM} {v:Value} (w:World) (hM:Em none w v M) (hs:ESz M) (ht:Tab w):Calls Tryz.prog 13 #[v] w (EvE M w):=by
 obtain ⟨sv,rfl,hS⟩:=hM
 obtain ⟨a,cap,b,off,A,A',C,C',rfl,ha,hc,hm,hb,hrow⟩:=hS.open
 unfold maxLen at hm
 clear hS
 have hbox:=BoxE.new w M (.slice a M.n cap)
 have hbel:Below w.heap.size w (w.alloc (.cells #[.slice a M.n cap,.int .i64 M.most] 24)):=(Below.refl _ _).alloc (Nat.le_refl _) _
 have hnn:=hs.n
 have hm0:=hs.m0
 have hm1:=hs.m1
 obtain ⟨mo,hmo⟩:∃ mo,mo=M.most:=⟨_,rfl⟩
 have HSZ:=Lib.hid hs;clear hs
 have HT:=Lib.hid ht;clear ht
 have HA:=Lib.hid ha;clear ha
 have HB:=Lib.hid hb;clear hb
 have HR:=Lib.hid hrow;clear hrow
 have m0:=hbox.c0
 have m1:=hbox.c1
 have HBX:=Lib.hid hbox;clear hbox
 have HBE:=Lib.hid hbel;clear hbel
 clear hmo
 go_enter Tryz.func13,Tryz.ntmps13
 go_wp2_with fail
 all_goals first
  | (go_ret;exact ⟨HBE.out,.inr ⟨fun v=>by have h1:=v.n4;have h2:=v.m0;have h3:=v.m6;omega,rfl⟩⟩)
  | skip
 have hpre:M.n≤400∧0≤M.most∧M.most≤6:=by omega
 have HPRE:=Lib.hid hpre;clear hpre
 obtain ⟨wm,hwm⟩:∃ wm,wm=w.alloc (.cells #[.slice a M.n cap,.int .i64 M.most] 24):=⟨_,rfl⟩
 rw [← hwm] at HBE
 rw [← hwm]
 clear hwm m0 m1 HBX
 go_loopw [22] (fun i wr=>∃ q:Nat,q≤M.n∧i=.int .i64 (q:Int)∧(∀ l,l < q→EdOk (M.e l))∧Below w.heap.size w wr) (fun i _=>M.n - (intOf i).toNat)
 case atStart=>exact ⟨0,Nat.zero_le _,rfl,fun l hl=>by omega,HBE.out⟩
 case round =>
  obtain ⟨q,hq,rfl,hok,hbw⟩:=hrel
  clear HBE
  have HOK:=Lib.hid hok;clear hok
  have HBW:=Lib.hid hbw;clear hbw
  by_cases hlt:q < M.n
  ·have hqz:(q:Int) < (M.n:Int):=by omega
   have hqz0:(0:Int)≤(q:Int):=by omega
   obtain rfl:=HA.out (by omega)
   have hbb:=(HB.out (by omega)).1
   obtain ⟨k1,k2,k3,k4,k5⟩:=HR.out q hlt
   have c0:=(HBW.out.cell (p:=⟨b,off+q*3,none⟩) hbb).trans k1
   have c1:=(HBW.out.cell (p:=⟨b,off+q*3+1,none⟩) hbb).trans k2
   have c2:=(HBW.out.cell (p:=⟨b,off+q*3+2,none⟩) hbb).trans k3
   clear k1 k2 k3
   have hnf:=HSZ.out.f q
   have hnt:=HSZ.out.t q
   obtain ⟨d,hd⟩:∃ d,d=M.e q:=⟨_,rfl⟩
   rw [← hd] at c0 c1 c2 k4 k5 hnf hnt
   obtain ⟨nf,hnfe⟩:∃ nf,nf=d.nf:=⟨_,rfl⟩
   obtain ⟨nt,hnte⟩:∃ nt,nt=d.nt:=⟨_,rfl⟩
   rw [← hnfe] at c0 k4 hnf
   rw [← hnte] at c1 k5 hnt
   have hno:¬ EdOk d→¬ VE M:=fun h v=>h (by rw [hd];exact v.ok q hlt)
   have HNO:=Lib.hid hno;clear hno
   have HK4:=Lib.hid k4;clear k4
   have HK5:=Lib.hid k5;clear k5
   have HD:=Lib.hid hd;clear hd
   have HNF:=Lib.hid hnfe;clear hnfe
   have HNT:=Lib.hid hnte;clear hnte
   obtain ⟨wa,hwa⟩:∃ wa,wa=wr.alloc (.cells #[.slice (A q) nf (C q),.slice (A' q) nt (C' q),.string d.w] 50):=⟨_,rfl⟩
   have hba:=HBW.out.alloc HBW.out.size (.cells #[.slice (A q) nf (C q),.slice (A' q) nt (C' q),.string d.w] 50)
   rw [← hwa] at hba
   have hblk:wa.heap[wr.heap.size]?=some (.cells #[.slice (A q) nf (C q),.slice (A' q) nt (C' q),.string d.w] 50 (0,0)):=by rw [hwa];exact heap_alloc_new wr _
   obtain ⟨ab,hab⟩:∃ ab,ab=wr.heap.size:=⟨_,rfl⟩
   rw [← hab] at hblk
   have HBA:=Lib.hid hba;clear hba
   have HBLK:=Lib.hid hblk;clear hblk
   by_cases h6:(6:Int) < max (nf:Int) (nt:Int)
   ·have hn:¬ (d.nf≤6∧d.nt≤6):=by rw [← HNF.out,← HNT.out];omega
    have HN:=Lib.hid hn;clear hn
    go_wp2_with fail
    go_ret
    rw [← hwa]
    exact ⟨HBA.out,.inr ⟨HNO.out (fun h=>HN.out ⟨h.f6,h.t6⟩),rfl⟩⟩
   ·have h6':decide ((6:Int) < max (nf:Int) (nt:Int))=false:=by simp;omega
    have h66:nf≤6∧nt≤6:=by omega
    have H66:=Lib.hid h66;clear h66 h6
    have hw:IntKind.i64.wrap ((nf:Int)+(nt:Int))=(nf:Int)+(nt:Int):=by rw [IntKind.wrap_i64];have:=H66.out;omega
    by_cases h00:(nf:Int)+(nt:Int)=0
    ·have hn:¬ (0 < d.nf+d.nt):=by rw [← HNF.out,← HNT.out];omega
     have HN:=Lib.hid hn;clear hn
     go_wp2_with fail
     go_ret
     rw [← hwa]
     exact ⟨HBA.out,.inr ⟨HNO.out (fun h=>HN.out h.pos),rfl⟩⟩
    ·have hps:0 < d.nf+d.nt:=by rw [← HNF.out,← HNT.out];omega
     have HPS:=Lib.hid hps;clear hps
     have hs1:=symbols_any (sig:=500) wa (HK4.out.kept (gb_below HBA.out none)) (by omega)
     have HS1:=Lib.hid hs1;clear hs1
     go_wp2_with fail
     rw [← hwa,← hab]
     clear hw h6' hab hwa c0 c1 c2
     refine HS1.out.mono ?_
     rintro r w1 ⟨rfl,hb1⟩
     have hbl1:=HBA.out.trans (hb1.mono HBA.out.size)
     have hblk1:=(hb1.block ab (lt_of_block HBLK.out)).trans HBLK.out
     have e1:w1.cell? ⟨ab,1,none⟩=some (.slice (A' q) nt (C' q)):=by simp [World.cell?,hblk1]
     have HB1:=Lib.hid hbl1;clear hbl1 hb1 HBA HBLK HS1
     have HBLK1:=Lib.hid hblk1;clear hblk1
     cases hw1:wordB nf d.f 500
     ·have hn:=wordB_not.1 hw1
      have HN:=Lib.hid hn;clear hn hw1
      go_wp2_with fail
      go_ret
      exact ⟨HB1.out,.inr ⟨HNO.out (fun h=>HN.out (by rw [HNF.out];exact h.fw)),rfl⟩⟩
     ·have hn:=wordB_iff.1 hw1
      have HW1:=Lib.hid hn;clear hn hw1
      have hs2:=symbols_any (sig:=500) w1 (HK5.out.kept (gb_below HB1.out none)) (by omega)
      have HS2:=Lib.hid hs2;clear hs2
      go_wp2_with fail
      refine HS2.out.mono ?_
      rintro r w2 ⟨rfl,hb2⟩
      have hbl2:=HB1.out.trans (hb2.mono HB1.out.size)
      have hblk2:=(hb2.block ab (lt_of_block HBLK1.out)).trans HBLK1.out
      have e2:w2.cell? ⟨ab,2,none⟩=some (.string d.w):=by simp [World.cell?,hblk2]
      have HB2:=Lib.hid hbl2;clear hbl2 hb2 HB1 HBLK1 HS2 e1 hblk2
      cases hw2:wordB nt d.t 500
      ·have hn:=wordB_not.1 hw2
       have HN:=Lib.hid hn;clear hn hw2
       go_wp2_with fail
       go_ret
       exact ⟨HB2.out,.inr ⟨HNO.out (fun h=>HN.out (by rw [HNT.out];exact h.tw)),rfl⟩⟩
      ·have hn:=wordB_iff.1 hw2
       have HW2:=Lib.hid hn;clear hn hw2
       have hs3:=cost_any d.w w2 (by rw [HD.out];have:=HSZ.out.w q;omega) (HT.out.below HB2.out (Nat.le_refl _))
       have HS3:=Lib.hid hs3;clear hs3
       go_wp2_with fail
       refine HS3.out.mono ?_
       rintro r w3 ⟨rfl,hb3⟩
       have HB3:=Lib.hid (HB2.out.trans (hb3.mono HB2.out.size));clear hb3 HB2 HS3 e2
       cases hw3:costB d.w
       ·have hn:¬ costOk d.w:=fun h=>by rw [costB_iff.2 h] at hw3;cases hw3
        have HN:=Lib.hid hn;clear hn hw3
        go_wp2_with fail
        go_ret
        exact ⟨HB3.out,.inr ⟨HNO.out (fun h=>HN.out h.wt),rfl⟩⟩
       ·have hn:=costB_iff.1 hw3
        have HW3:=Lib.hid hn;clear hn hw3
        go_wp2_with fail
        go_roundw
        case rel =>
         refine ⟨q+1,by omega,by go_num,fun l hl=>?_,HB3.out⟩
         by_cases e:l=q
         ·subst e
          rw [← HD.out]
          exact ⟨by rw [← HNF.out];exact H66.out.1,by rw [← HNT.out];exact H66.out.2,HPS.out,by rw [← HNF.out];exact HW1.out,by rw [← HNT.out];exact HW2.out,HW3.out⟩
         ·exact HOK.out l (by omega)
        case measure=>simp [intOf];omega
  ·have hqn:q=M.n:=by omega
   have hgt:¬ ((q:Int) < (M.n:Int)):=by omega
   have HQ:=Lib.hid hqn;clear hqn
   go_wp2_with fail
   go_ret
   exact ⟨HBW.out,.inl ⟨⟨HPRE.out.1,HPRE.out.2.1,HPRE.out.2.2,fun i hi=>HOK.out i (by rw [HQ.out];exact hi)⟩,rfl⟩⟩
end Go.Proofs.YtjekapjbigfkbaaGreatDoor

namespace Go.Proofs.YtjekapjbigfkbaaGreatDoor
open Go Go.RowKit Go.Deep
set_option maxRecDepth 100000
set_option linter.unusedSimpArgs false
structure Fr (C:Nat→Prop) (w w':World):Prop where
 os:w'.os=w.os
 tape:w'.tape=w.tape
 output:w'.output=w.output
 size:w.heap.size≤w'.heap.size
 block:∀ q,q < w.heap.size→¬ C q→w'.heap[q]?=w.heap[q]?
namespace Fr
variable {C C':Nat→Prop} {w w' w2:World}
theorem refl (C:Nat→Prop) (w:World):Fr C w w:=⟨rfl,rfl,rfl,Nat.le_refl _,fun _ _ _=>rfl⟩
theorem trans (h:Fr C w w') (k:Fr C w' w2):Fr C w w2:=⟨k.os.trans h.os,k.tape.trans h.tape,k.output.trans h.output,Nat.le_trans h.size k.size,fun q hq hc=>(k.block q (by have:=h.size;omega) hc).trans (h.block q hq hc)⟩
theorem mono (h:Fr C w w') (hc:∀ q,q < w.heap.size→C q→C' q):Fr C' w w':=⟨h.os,h.tape,h.output,h.size,fun q hq hn=>h.block q hq fun e=>hn (hc q hq e)⟩
theorem of_gb {z:Option Nat} (h:w.grownBy w' z) (hz:∀ q,z=some q→C q):Fr C w w':=⟨h.os,h.tape,h.output,h.size,fun q hq hc=>h.block q hq fun e=>hc (hz q e.symm)⟩
theorem of_below (h:Below w.heap.size w w'):Fr C w w':=of_gb (gb_below h none) (by simp)
theorem alloc (w:World) (o:Obj):Fr C w (w.alloc o):=of_gb (World.grownBy_alloc w o none) (by simp)
theorem drew (h:Fr C w w'):Fr C w w'.drew:=⟨h.os,h.tape,h.output,h.size,h.block⟩
theorem set (h:Fr C w w') {p:Addr} (hp:C p.block∨w.heap.size≤p.block) (v:Value):Fr C w (w'.setCell p v) :=
 ⟨h.os,h.tape,h.output,by rw [nblk_setCell];exact h.size,fun q hq hc=>(blk_setCell_other _ _ _ _ (by
  rcases hp with e | e
  ·intro e2;subst e2;exact hc e
  ·omega)).trans (h.block q hq hc)⟩
theorem below (h:Fr C w w') {B:Nat} (hB:B≤w.heap.size) (hc:∀ q,C q→B≤q):Below B w w':=⟨h.os,h.tape,h.output,h.size,fun q hq=>h.block q (by omega) fun e=>by have:=hc q e;omega⟩
theorem gb {z:Option Nat} (h:Fr (fun q=>z=some q) w w'):w.grownBy w' z:=⟨h.os,h.tape,h.output,h.size,fun q hq hz=>h.block q hq fun e=>hz e.symm⟩
theorem cell (h:Fr C w w') {p:Addr} {v:Value} (hp:w.cell? p=some v) (hc:¬ C p.block):w'.cell? p=some v:=by
 have hlt:p.block < w.heap.size:=by
  unfold World.cell? at hp
  cases hb:w.heap[p.block]? with
  | none=>simp [hb] at hp
  | some o=>exact (Array.getElem?_eq_some_iff.1 hb).1
 unfold World.cell? at hp ⊢
 rw [h.block _ hlt hc];exact hp
theorem row (h:Fr C w w') {g:Nat} {t:TypeId} {n:Nat} {F:Nat→Value} (hr:w.rowIs g t n F) (hc:¬ C g):w'.rowIs g t n F:=hr.of_block (h.block g hr.lt hc)
end Fr
theorem blk_setne {w:World} {p:Addr} {q:Nat} (h:q≠p.block) (v:Value):(w.setCell p v).heap[q]?=w.heap[q]?:=blk_setCell_other _ _ _ _ h
def plusC (k:Int) (a b:ByteArray) (e:Nat):ByteArray × Nat:=if a=⟨#[]⟩∨e≠0 then (b,e) else plusF k a b
def timesC (k:Int) (a b:ByteArray) (e:Nat):ByteArray × Nat:=if e≠0 then (a,e) else timesF k a b
abbrev WS:=(Nat→ByteArray) × Nat
def updS (l:Nat→ByteArray) (t:Nat) (s:ByteArray):Nat→ByteArray:=fun j=>if j=t then s else l j
def arcC (D:MD) (sel:Int→Int→Bool) (v:Nat→ByteArray) (q k:Nat) (s:WS):WS :=
 if sel (D.ain q k) (D.aout q k)=true then
  (updS s.1 (D.ato q k).toNat (plusC D.kind (s.1 (D.ato q k).toNat) (timesC D.kind (v q) (D.aw q k) s.2).1 (timesC D.kind (v q) (D.aw q k) s.2).2).1,(plusC D.kind (s.1 (D.ato q k).toNat) (timesC D.kind (v q) (D.aw q k) s.2).1 (timesC D.kind (v q) (D.aw q k) s.2).2).2)
 else s
def arcsC (D:MD) (sel:Int→Int→Bool) (v:Nat→ByteArray) (q:Nat):Nat→WS→WS
 | 0,s=>s
 | k+1,s=>arcC D sel v q k (arcsC D sel v q k s)
def rowC (D:MD) (sel:Int→Int→Bool) (v:Nat→ByteArray) (q:Nat) (s:WS):WS:=if v q=⟨#[]⟩ then s else arcsC D sel v q (D.na q) s
def stepC (D:MD) (sel:Int→Int→Bool) (v:Nat→ByteArray):Nat→WS→WS
 | 0,s=>s
 | q+1,s=>rowC D sel v q (stepC D sel v q s)
def endC (D:MD) (v:Nat→ByteArray):Nat→ByteArray × Nat→ByteArray × Nat
 | 0,s=>s
 | q+1,s=>if v q=⟨#[]⟩∨D.fin q=⟨#[]⟩ then endC D v q s else plusC D.kind (endC D v q s).1 (timesC D.kind (v q) (D.fin q) (endC D v q s).2).1 (timesC D.kind (v q) (D.fin q) (endC D v q s).2).2
def finC (D:MD) (v:Nat→ByteArray) (e:Nat):ByteArray × Nat:=if (endC D v D.n (zeroF D.kind,e)).2≠0 then (⟨#[]⟩,(endC D v D.n (zeroF D.kind,e)).2) else ((endC D v D.n (zeroF D.kind,e)).1,0)
def startC (D:MD):Nat→ByteArray:=fun q=>if q=D.start.toNat then D.lead else ⟨#[]⟩
def noneC:Nat→ByteArray:=fun _=>⟨#[]⟩
def smS (s:ByteArray):Prop:=s.size≤9223372036854775807
theorem limV_sm (v:V):smS (limV v).1:=by
 unfold smS
 cases v with
 | inf=>decide
 | low=>decide
 | fin q=>exact Nat.le_trans (limR_size q) (by omega)
theorem plusF_sm (k:Int) (a b:ByteArray):smS (plusF k a b).1:=by
 unfold plusF;split
 ·exact limV_sm _
 ·show (str []).size≤_;decide
theorem timesF_sm (k:Int) (a b:ByteArray):smS (timesF k a b).1:=by
 unfold timesF;split
 ·exact limV_sm _
 ·show (str []).size≤_;decide
theorem plusC_sm {k:Int} {a b:ByteArray} {e:Nat} (hb:smS b):smS (plusC k a b e).1:=by
 unfold plusC;split
 ·exact hb
 ·exact plusF_sm _ _ _
theorem timesC_sm {k:Int} {a b:ByteArray} {e:Nat} (ha:smS a):smS (timesC k a b e).1:=by
 unfold timesC;split
 ·exact ha
 ·exact timesF_sm _ _ _
theorem arcC_sm {D:MD} {sel:Int→Int→Bool} {v:Nat→ByteArray} {q k:Nat} {s:WS} (hv:smS (v q)) (hs:∀ j,smS (s.1 j)) (j:Nat):smS ((arcC D sel v q k s).1 j):=by
 unfold arcC;split
 ·show smS (updS s.1 _ _ j)
  unfold updS;split
  ·exact plusC_sm (timesC_sm hv)
  ·exact hs j
 ·exact hs j
theorem arcsC_sm {D:MD} {sel:Int→Int→Bool} {v:Nat→ByteArray} {q:Nat} (hv:smS (v q)):∀ (k:Nat) {s:WS},(∀ j,smS (s.1 j))→∀ j,smS ((arcsC D sel v q k s).1 j)
 | 0,_,hs=>hs
 | k+1,_,hs=>fun j=>arcC_sm hv (arcsC_sm hv k hs) j
theorem stepC_sm {D:MD} {sel:Int→Int→Bool} {v:Nat→ByteArray} (hv:∀ j,smS (v j)):∀ (q:Nat) {s:WS},(∀ j,smS (s.1 j))→∀ j,smS ((stepC D sel v q s).1 j)
 | 0,_,hs=>hs
 | q+1,s,hs=>fun j=>by
  show smS ((rowC D sel v q (stepC D sel v q s)).1 j)
  unfold rowC;split
  ·exact stepC_sm hv q hs j
  ·exact arcsC_sm (hv q) _ (stepC_sm hv q hs) j
theorem endC_sm {D:MD} {v:Nat→ByteArray} (hv:∀ j,smS (v j)):∀ (q:Nat) {s:ByteArray × Nat},smS s.1→smS (endC D v q s).1
 | 0,_,hs=>hs
 | q+1,s,hs=>by
  unfold endC;split
  ·exact endC_sm hv q hs
  ·exact plusC_sm (timesC_sm (hv q))
end Go.Proofs.YtjekapjbigfkbaaGreatDoor

namespace Go.Proofs.YtjekapjbigfkbaaGreatDoor
open Go Go.RowKit Go.Deep
set_option maxRecDepth 100000
def SumB (w:World) (sb:Nat) (k:Int) (e:Nat):Prop:=w.heap[sb]?=some (.cells #[.int .i64 k,.int .i64 (e:Int)] 186 (0,0))
theorem SumB.lt {w:World} {sb e:Nat} {k:Int} (h:SumB w sb k e):sb < w.heap.size:=(Array.getElem?_eq_some_iff.1 h).1
theorem SumB.c0 {w:World} {sb e:Nat} {k:Int} (h:SumB w sb k e):w.cell? ⟨sb,0,none⟩=some (.int .i64 k):=by unfold SumB at h;simp [World.cell?,h]
theorem SumB.set {w:World} {sb e:Nat} {k:Int} (h:SumB w sb k e) (e':Nat):SumB (w.setCell ⟨sb,1,none⟩ (.int .i64 (e':Int))) sb k e':=by
 unfold SumB at *;simp [World.setCell,Array.getElem?_modify,h]
theorem SumB.kept {w w':World} {sb e:Nat} {k:Int} (h:SumB w sb k e) (hb:Below w.heap.size w w'):SumB w' sb k e:=by
 unfold SumB at *;rw [hb.block sb (Array.getElem?_eq_some_iff.1 h).1];exact h
end Go.Proofs.YtjekapjbigfkbaaGreatDoor
namespace Go.Proofs.YtjekapjbigfkbaaGreatDoor
open Go Go.RowKit Go.Deep
set_option maxRecDepth 100000
theorem info_str:(Tryz.prog.info? 9).map (fun i=>(i.zero,i.size,i.bytes))=some (some (.string ⟨#[]⟩),1,16):=by kernel_rfl
theorem info_strs:(Tryz.prog.info? 67).map (fun i=>(i.zero,i.size,i.bytes))=some (some (.slice none 0 0),1,24):=by kernel_rfl
structure Tb (w:World) (k:Int) (B tb sb g n e:Nat) (R:Nat→Value) (X:Nat→Nat→ByteArray):Prop where
 tab:w.heap[tb]?=some (.cells #[.pointer (some ⟨sb,0,none⟩),.slice (some ⟨g,0,none⟩) n n] 216 (0,0))
 sum:SumB w sb k e
 om:OM w (fun b=>b=tb) B 9 67 g n R (fun _=>n) X
 sbB:sb < B
 tbB:B≤tb
namespace Tb
variable {w w':World} {k:Int} {B tb sb g n e:Nat} {R:Nat→Value} {X:Nat→Nat→ByteArray}
theorem c0 (h:Tb w k B tb sb g n e R X):w.cell? ⟨tb,0,none⟩=some (.pointer (some ⟨sb,0,none⟩)):=by have:=h.tab;simp [World.cell?,this]
theorem tbLt (h:Tb w k B tb sb g n e R X):tb < w.heap.size:=(Array.getElem?_eq_some_iff.1 h.tab).1
theorem kept {e':Nat} (h:Tb w k B tb sb g n e R X) (hg:w.grownBy w' (some sb)) (hs:SumB w' sb k e'):Tb w' k B tb sb g n e' R X :=
 ⟨by rw [hg.block tb h.tbLt (by simp;have:=h.sbB;have:=h.tbB;omega)];exact h.tab,hs,h.om.kept hg (fun q hq=>by cases hq;exact h.sbB),h.sbB,h.tbB⟩
theorem below (h:Tb w k B tb sb g n e R X) (hb:Below w.heap.size w w'):Tb w' k B tb sb g n e R X:=h.kept (gb_below hb _) (h.sum.kept hb)
theorem stored {i j b cap:Nat} (h:Tb w k B tb sb g n e R X) (hi:i < n) (hj:j < n) (hR:R i=.slice (some ⟨b,0,none⟩) n cap) (x:ByteArray) :
  Tb (w.setCell ⟨b,j,none⟩ (.string x)) k B tb sb g n e R (fun q l=>if q=i∧l=j then x else X q l):=by
 have hf:=h.om.far i hi b (by rw [hR];rfl)
 have hl:=(h.om.rowLt hi b (by rw [hR];rfl)).1
 refine ⟨?_,?_,h.om.stored hi hj hR x,h.sbB,h.tbB⟩
 ·rw [blk_setCell_other _ _ _ _ (by show tb≠b;exact fun e=>hf.2 e.symm)];exact h.tab
 ·have hs:=h.sum
  unfold SumB at *
  rw [blk_setCell_other _ _ _ _ (by show sb≠b;have:=h.sbB;omega)];exact hs
end Tb
def Prog {k:KK} (e p n i j:Nat) (M:Nat→Nat→RK k) (X Y:Nat→Nat→ByteArray):Prop :=
 ∀ q l,q < n→l < n→if q < i∨(q=i∧l < j) then Is k e (Y q l) (CSR.elim p M q l) else Y q l=X q l
def MatIs {k:KK} (e n:Nat) (X:Nat→Nat→ByteArray) (M:Nat→Nat→RK k):Prop:=∀ q l,q < n→l < n→Is k e (X q l) (M q l)
theorem MatIs.mono {k:KK} {e e' n:Nat} {X:Nat→Nat→ByteArray} {M:Nat→Nat→RK k} (h:MatIs e n X M) (he:e'=0→e=0):MatIs e' n X M:=fun q l hq hl=>(h q l hq hl).mono he
theorem Prog.start {k:KK} (e p n:Nat) (M:Nat→Nat→RK k) (X:Nat→Nat→ByteArray):Prog e p n 0 0 M X X:=fun q l hq hl=>by rw [if_neg (by omega)]
theorem Prog.mono {k:KK} {e e' p n i j:Nat} {M:Nat→Nat→RK k} {X Y:Nat→Nat→ByteArray} (h:Prog e p n i j M X Y) (he:e'=0→e=0):Prog e' p n i j M X Y:=fun q l hq hl=>by
 have:=h q l hq hl
 split
 ·rename_i h1;rw [if_pos h1] at this;exact this.mono he
 ·rename_i h1;rw [if_neg h1] at this;exact this
theorem Prog.skip {k:KK} {e p n i j:Nat} {M:Nat→Nat→RK k} {X Y:Nat→Nat→ByteArray} (h:Prog e p n i j M X Y) (hi:i < n) (hj:j < n) (hu:Is k e (X i j) (CSR.elim p M i j)):Prog e p n i (j+1) M X Y:=fun q l hq hl=>by
 have:=h q l hq hl
 by_cases h0:q=i∧l=j
 ·obtain ⟨rfl,rfl⟩:=h0
  rw [if_pos (by omega)];rw [if_neg (by omega)] at this;rw [this];exact hu
 ·split
  ·rename_i h1;rw [if_pos (by omega)] at this;exact this
  ·rename_i h1;rw [if_neg (by omega)] at this;exact this
theorem Prog.row {k:KK} {e p n i:Nat} {M:Nat→Nat→RK k} {X Y:Nat→Nat→ByteArray} (h:Prog e p n i n M X Y):Prog e p n (i+1) 0 M X Y:=fun q l hq hl=>by
 have:=h q l hq hl
 split
 ·rename_i h1;rw [if_pos (by omega)] at this;exact this
 ·rename_i h1;rw [if_neg (by omega)] at this;exact this
theorem Prog.done {k:KK} {e p n:Nat} {M:Nat→Nat→RK k} {X Y:Nat→Nat→ByteArray} (h:Prog e p n n 0 M X Y):MatIs e n Y (CSR.elim p M):=fun q l hq hl=>by
 have:=h q l hq hl;rwa [if_pos (by omega)] at this
theorem Prog.at {k:KK} {e p n i j:Nat} {M:Nat→Nat→RK k} {X Y:Nat→Nat→ByteArray} (h:Prog e p n i j M X Y) (hi:i < n) (hj:j < n):Y i j=X i j:=by
 have:=h i j hi hj;rwa [if_neg (by omega)] at this
structure FitE {k:KK} (n p:Nat) (M:Nat→Nat→RK k):Prop where
 star:fitV (CSR.star (M p p)).1
 first:∀ i,i < n→fitV (M i p*CSR.star (M p p)).1
 second:∀ i j,i < n→j < n→fitV (M i p*CSR.star (M p p)*M p j).1
 sum:∀ i j,i < n→j < n→fitV (CSR.elim p M i j).1
end Go.Proofs.YtjekapjbigfkbaaGreatDoor

namespace Go.Proofs.YtjekapjbigfkbaaGreatDoor
open Go Go.RowKit Go.Deep
set_option maxRecDepth 100000
theorem toList_eq {a b:ByteArray} (h:(a.toList == b.toList)=true):a=b:=by
 rw [beq_iff_eq,Lib.toList_data,Lib.toList_data] at h
 exact ByteArray.ext (Array.toList_inj.1 h)
end Go.Proofs.YtjekapjbigfkbaaGreatDoor
