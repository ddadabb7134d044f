/- Parts of a proof: EdSD. -/
import Derived.Test.YtjekapjbigfkbaaGreatDoorQ35
import Derived.Test.YtjekapjbigfkbaaGreatDoorQ36
namespace Go.Proofs.YtjekapjbigfkbaaGreatDoor
open Go Go.RowKit Go.Deep
set_option maxRecDepth 100000
set_option linter.unusedSimpArgs false
structure SqI (w0 w:World) (rb:Nat):Prop where
 kr:BxE w rb (.slice none 0 0) 0
 be:Below w0.heap.size w0 w
 lr:w0.heap.size≤rb
theorem SqI.new {w0 w w':World} {rb:Nat} (h:SqI w0 w rb) (hf:Fr (fun _=>False) w w'):SqI w0 w' rb :=
 ⟨(hf.block rb (lt_of_block h.kr) (fun e=>e)).trans h.kr,h.be.trans (hf.below h.be.size (fun _ e=>e.elim)),h.lr⟩
def SqE (w0 W:World) (rb:Nat) (sv:Value) (z:EM × Nat):Prop:=BxE W rb sv z.1.most∧NewR z w0 (.returned (.tuple #[.agg #[sv,.int .i64 z.1.most],.int .i64 (z.2:Int)])) W
theorem SqI.err {w0 w:World} {rb:Nat} (h:SqI w0 w rb) (e:Nat):w.cell? ⟨rb,0,none⟩=some (.slice none 0 0)∧w.cell? ⟨rb,1,none⟩=some (.int .i64 0)∧w.frozen? ⟨rb,0,none⟩=false∧w.frozen? ⟨rb,1,none⟩=false ∧
  SqE w0 ((w.setCell ⟨rb,0,none⟩ (.slice none 0 0)).setCell ⟨rb,1,none⟩ (.int .i64 0)) rb (.slice none 0 0) (zeroE,e):=by
 have hk:=h.kr
 refine ⟨cell_of hk 0 rfl,cell_of hk 1 rfl,by unfold BxE at hk;simp [World.frozen?,hk],by unfold BxE at hk;simp [World.frozen?,hk],bxe_zero hk,?_⟩
 exact ⟨(h.be.setCell (p:=⟨rb,0,none⟩) h.lr _).setCell (p:=⟨rb,1,none⟩) h.lr _,_,rfl,eds_zero _⟩
set_option maxHeartbeats 16000000 in
theorem rsimple_any {n:Nat} {lv:Value} {x:Nat→Int} (ci cr cp cs:ByteArray) (most:Int) (w:World) (hx:Si none w lv n x) (hn:n≤100) (h1:smS ci) (h2:smS cr) (h3:smS cp) (h4:smS cs) :
  Calls Tryz.prog 29 #[lv,.string ci,.string cr,.string cp,.string cs,.int .i64 most] w (NewR (simR n x ci cr cp cs most) w):=by
 obtain ⟨al,cl,bl,ol,hlv,hal,hcl,hclm,hbl,hcell⟩:=hx.open
 subst hlv
 obtain ⟨w1,hw1⟩:∃ w1,w1=w.alloc (.cells #[.slice none 0 0,.int .i64 0] 24):=⟨_,rfl⟩
 obtain ⟨rb,hrb⟩:∃ rb,rb=w.heap.size:=⟨_,rfl⟩
 have hsq:SqI w w1 rb:=⟨by rw [hw1,hrb];exact heap_alloc_new w _,by rw [hw1];exact (Below.refl _ _).alloc (Nat.le_refl _) _,by omega⟩
 have HSQ:=Lib.hid hsq;clear hsq hx
 have HRB:=Lib.hid (show w.heap.size≤rb by omega)
 have HA:=Lib.hid hal;clear hal
 have HBL:=Lib.hid hbl;clear hbl
 have HCL:=Lib.hid hcell;clear hcell
 have HS:Hid (∀ q,smS (W4 ci cr cp cs q)):=Lib.hid fun q=>by unfold W4;split;exact h1;split;exact h2;split;exact h3;exact h4
 clear h1 h2 h3 h4
 clear hcl hclm
 obtain ⟨ZZ,hZZ⟩:∃ ZZ,ZZ=simR n x ci cr cp cs most:=⟨_,rfl⟩
 rw [← hZZ]
 have HZ:=Lib.hid hZZ;clear hZZ
 have HNO:=Lib.hid (show ∀ W,SqI w W rb→okS n x ci cr cp cs most=false→W.cell? ⟨rb,0,none⟩=some (.slice none 0 0)∧W.cell? ⟨rb,1,none⟩=some (.int .i64 0)∧W.frozen? ⟨rb,0,none⟩=false∧W.frozen? ⟨rb,1,none⟩=false ∧
   BxE ((W.setCell ⟨rb,0,none⟩ (.slice none 0 0)).setCell ⟨rb,1,none⟩ (.int .i64 0)) rb (.slice none 0 0) 0∧NewR ZZ w (.returned (.tuple #[.agg #[.slice none 0 0,.int .i64 0],.int .i64 1])) ((W.setCell ⟨rb,0,none⟩ (.slice none 0 0)).setCell ⟨rb,1,none⟩ (.int .i64 0)) from fun W h hb=>by
  obtain ⟨a1,a2,a3,a4,a5,a6⟩:=h.err 1
  exact ⟨a1,a2,a3,a4,a5,by rw [HZ.out,simR_no hb];exact a6⟩)
 go_enter Tryz.func29,Tryz.ntmps29
 go_wp2_with fail
 rw [← hw1,← hrb]
 clear hw1 hrb
 go_loopw [14] (fun v14 wr=>∃ q:Nat,q≤n∧v14=.int .i64 (q:Int)∧(∀ j,j < q→(1≤x j∧x j≤500)∧memB j x (x j)=false)∧SqI w wr rb) (fun v14 _=>n - (intOf v14).toNat)
 case atStart=>exact ⟨0,Nat.zero_le _,rfl,fun j hj=>absurd hj (Nat.not_lt_zero _),HSQ.out⟩
 case round =>
  obtain ⟨q,hq,rfl,hok,hsq⟩:=hrel
  clear HSQ
  have HOK:=Lib.hid hok;clear hok
  have HSQ:=Lib.hid hsq;clear hsq
  obtain ⟨wo,rfl⟩:∃ wo:World,wo=wr:=⟨_,rfl⟩
  by_cases hqt:q < n
  ·have hqz:(q:Int) < (n:Int):=by omega
   have hqz0:(0:Int)≤(q:Int):=by omega
   obtain rfl:=HA.out (by omega)
   have hbb:=(HBL.out (by omega)).1
   have c0:=(HSQ.out.be.cell (p:=⟨bl,ol+q,none⟩) hbb).trans (HCL.out q hqt)
   obtain ⟨xq,hxq⟩:∃ xq,xq=x q:=⟨_,rfl⟩
   rw [← hxq] at c0
   have HXQ:=Lib.hid hxq;clear hxq
   by_cases h1:xq < 1
   ·have hbad:okS n x ci cr cp cs most=false:=by
     have:wordB n x 500=false:=wordB_not.2 fun h=>by have:=(h q hqt).1;rw [← HXQ.out] at this;omega
     unfold okS;rw [this];rfl
    obtain ⟨m0,m1,g0,g1,hb1,hb2⟩:=HNO.out _ HSQ.out hbad
    have HB1:=Lib.hid hb1;clear hb1
    have HB2:=Lib.hid hb2;clear hb2 hbad
    go_wp2_with fail
    exact bodyPost_ret (results_e2 rfl _ (b:=rb) (v:=.int .i64 1) rfl rfl HB1.out) rfl HB2.out
   ·have h1':decide (xq < 1)=false:=by simp;omega
    by_cases h5:(500:Int) < xq
    ·have hbad:okS n x ci cr cp cs most=false:=by
      have:wordB n x 500=false:=wordB_not.2 fun h=>by have:=(h q hqt).2;rw [← HXQ.out] at this;omega
      unfold okS;rw [this];rfl
     obtain ⟨m0,m1,g0,g1,hb1,hb2⟩:=HNO.out _ HSQ.out hbad
     have HB1:=Lib.hid hb1;clear hb1
     have HB2:=Lib.hid hb2;clear hb2 hbad
     go_wp2_with fail
     exact bodyPost_ret (results_e2 rfl _ (b:=rb) (v:=.int .i64 1) rfl rfl HB1.out) rfl HB2.out
    ·have h5':decide ((500:Int) < xq)=false:=by simp;omega
     have HR:=Lib.hid (show 1≤xq∧xq≤500 by omega)
     go_wp2_with fail
     clear c0
     go_loopw [15] (fun v15 wr=>∃ k:Nat,k≤q∧v15=.int .i64 (k:Int)∧(∀ j,j < k→x j≠xq)∧SqI w wr rb) (fun v15 _=>q - (intOf v15).toNat)
     case atStart=>exact ⟨0,Nat.zero_le _,rfl,fun j hj=>absurd hj (Nat.not_lt_zero _),HSQ.out⟩
     case round =>
      obtain ⟨k,hk,rfl,hne,hsq⟩:=hrel
      clear HSQ
      have HNE:=Lib.hid hne;clear hne
      have HSQ:=Lib.hid hsq;clear hsq
      by_cases hkt:k < q
      ·have hkz:(k:Int) < (q:Int):=by omega
       have hkn:(k:Int) < (n:Int):=by omega
       have hkz0:(0:Int)≤(k:Int):=by omega
       have c0:=(HSQ.out.be.cell (p:=⟨bl,ol+q,none⟩) hbb).trans (HCL.out q hqt)
       have c1:=(HSQ.out.be.cell (p:=⟨bl,ol+k,none⟩) hbb).trans (HCL.out k (by omega))
       rw [← HXQ.out] at c0
       obtain ⟨xk,hxk⟩:∃ xk,xk=x k:=⟨_,rfl⟩
       rw [← hxk] at c1
       have HXK:=Lib.hid hxk;clear hxk
       have HSD:=Lib.hid (fun N=>HSQ.out.new (Fr.of_below (below_drewN (Below.refl wr.heap.size wr) N)))
       cases hee:(xk == xq)
       ·have HEE:=Lib.hid (show xk≠xq by simpa using hee)
        go_wp2_with fail
        go_quiet (fail)
        go_wp2_with fail
        go_roundw
        case rel =>
         refine ⟨k+1,by omega,by go_num,fun j hj=>?_,HSD.out _⟩
         by_cases e:j=k
         ·rw [e,← HXK.out];exact HEE.out
         ·exact HNE.out j (by omega)
        case measure=>simp [intOf];omega
       ·have hbad:okS n x ci cr cp cs most=false:=by
         have hxe:x k=x q:=by rw [← HXK.out,← HXQ.out];simpa using hee
         have:nodB n x=false:=by
          cases h:nodB n x
          ·rfl
          ·have h1:=nodB_iff.1 h q hqt
           rw [show memB q x (x q)=true from memB_iff.2 ⟨k,hkt,hxe⟩] at h1;cases h1
         unfold okS;rw [this];simp
        have HBAD:=Lib.hid hbad;clear hbad
        go_wp2_with fail
        go_quiet (fail)
        generalize hWN:World.drewN wr _=WN
        obtain ⟨m0,m1,g0,g1,hb1,hb2⟩:=HNO.out WN (by rw [← hWN];exact HSD.out _) HBAD.out
        clear hWN
        have HB1:=Lib.hid hb1;clear hb1
        have HB2:=Lib.hid hb2;clear hb2
        go_wp2_with fail
        exact bodyPost_ret (results_e2 rfl _ (b:=rb) (v:=.int .i64 1) rfl rfl HB1.out) rfl HB2.out
      ·have hkq:k=q:=by omega
       have hgt:¬ ((k:Int) < (q:Int)):=by omega
       have hme:memB q x (x q)=false:=by
        cases h:memB q x (x q)
        ·rfl
        ·obtain ⟨j,hj,he⟩:=memB_iff.1 h
         exact absurd (he.trans HXQ.out.symm) (HNE.out j (by omega))
       have HME:=Lib.hid hme;clear hme hkq
       go_wp2_with fail
       go_roundw
       case rel =>
        refine ⟨q+1,by omega,by go_num,fun j hj=>?_,HSQ.out⟩
        by_cases e:j=q
        ·rw [e];exact ⟨by rw [← HXQ.out];exact HR.out,HME.out⟩
        ·exact HOK.out j (by omega)
       case measure=>simp [intOf];omega
  ·have hqn:q=n:=by omega
   have hgt:¬ ((q:Int) < (n:Int)):=by omega
   have hw1:wordB n x 500=true:=wordB_iff.2 fun i hi=>(HOK.out i (by omega)).1
   have hn1:nodB n x=true:=nodB_iff.2 fun i hi=>(HOK.out i (by omega)).2
   have HND:=Lib.hid (show ∀ i,i < n→memB i x (x i)=false from fun i hi=>(HOK.out i (by omega)).2)
   have HWN:=Lib.hid (show (wordB n x 500 && nodB n x)=true by rw [hw1,hn1];rfl);clear hw1 hn1
   clear HOK hqn
   obtain ⟨w2,hw2⟩:∃ w2,w2=wo.alloc (.cells #[.string ci,.string cr,.string cp,.string cs] 9):=⟨_,rfl⟩
   obtain ⟨kb,hkb⟩:∃ kb,kb=wo.heap.size:=⟨_,rfl⟩
   have HQ2:=Lib.hid (show SqI w w2 rb by rw [hw2];exact HSQ.out.new (Fr.alloc _ _))
   have hcb:w2.heap[kb]?=some (.cells #[.string ci,.string cr,.string cp,.string cs] 9 (0,0)):=by rw [hw2,hkb];exact heap_alloc_new wo _
   have HCB:=Lib.hid hcb;clear hcb HSQ
   go_wp2_with fail
   rw [← hw2,← hkb]
   clear hw2 hkb
   go_loopw [17] (fun v17 wr=>∃ q:Nat,q≤4∧v17=.int .i64 (q:Int)∧(∀ j,j < q→cstB (W4 ci cr cp cs j)=true)∧SqI w wr rb∧wr.heap[kb]?=some (.cells #[.string ci,.string cr,.string cp,.string cs] 9 (0,0))) (fun v17 _=>4 - (intOf v17).toNat)
   case atStart=>exact ⟨0,Nat.zero_le _,rfl,fun j hj=>absurd hj (Nat.not_lt_zero _),HQ2.out,HCB.out⟩
   case round =>
    obtain ⟨p,hp,rfl,hok,hsq,hcb⟩:=hrel
    clear HQ2 HCB
    have HOK:=Lib.hid hok;clear hok
    have HSQ:=Lib.hid hsq;clear hsq
    have HCB:=Lib.hid hcb;clear hcb
    have hbad:∀ j,j < 4→cstB (W4 ci cr cp cs j)=false→okS n x ci cr cp cs most=false:=fun j hj h=>by
     have h4:((cstB ci && cstB cr) && (cstB cp && cstB cs))=false:=by
      have:j=0∨j=1∨j=2∨j=3:=by omega
      rcases this with rfl | rfl | rfl | rfl
      ·rw [show cstB ci=false from h];rfl
      ·rw [show cstB cr=false from h];simp
      ·rw [show cstB cp=false from h];simp
      ·rw [show cstB cs=false from h];simp
     unfold okS;rw [h4];simp
    have HBAD:=Lib.hid hbad;clear hbad
    by_cases hpt:p < 4
    ·have hpz:(p:Int) < 4:=by omega
     have hpz0:(0:Int)≤(p:Int):=by omega
     have hcc:∀ W:World,W.heap[kb]?=some (.cells #[.string ci,.string cr,.string cp,.string cs] 9 (0,0))→W.cell? ⟨kb,p,none⟩=some (.string (W4 ci cr cp cs p)):=fun W h=>by
      have:p=0∨p=1∨p=2∨p=3:=by omega
      rcases this with rfl | rfl | rfl | rfl <;> exact cell_of h _ rfl
     have c0:=hcc wr HCB.out
     clear hcc
     obtain ⟨W,hW⟩:∃ W,W=W4 ci cr cp cs p:=⟨_,rfl⟩
     rw [← hW] at c0
     have HW:=Lib.hid hW;clear hW
     cases hO:(W.toList == [])
     ·have hw0:W≠⟨#[]⟩:=fun e=>by rw [e] at hO;simp at hO
      have HW0:=Lib.hid hw0;clear hw0
      have hsw:smS W:=by rw [HW.out];exact HS.out p
      unfold smS at hsw
      have HSE:=Lib.hid (rcost_any W wr (by omega))
      clear hsw
      go_wp2_with fail
      refine HSE.out.mono ?_
      rintro rr w5 ⟨rfl,hb5⟩
      have hf5:Fr (fun _=>False) wr w5:=Fr.of_below hb5
      have HSQ5:=Lib.hid (HSQ.out.new hf5)
      have HCB5:=Lib.hid ((hf5.block kb (lt_of_block HCB.out) (fun e=>e)).trans HCB.out)
      clear hf5 hb5 c0
      cases hcb:costB W
      ·have hcc:cstB (W4 ci cr cp cs p)=false:=by rw [← HW.out];unfold cstB;rw [hcb];simp [HW0.out]
       obtain ⟨m0,m1,g0,g1,hb1,hb2⟩:=HNO.out _ HSQ5.out (HBAD.out p hpt hcc)
       have HB1:=Lib.hid hb1;clear hb1
       have HB2:=Lib.hid hb2;clear hb2
       clear hcb hcc
       go_wp2_with fail
       exact bodyPost_ret (results_e2 rfl _ (b:=rb) (v:=.int .i64 1) rfl rfl HB1.out) rfl HB2.out
      ·have hcc:cstB (W4 ci cr cp cs p)=true:=by rw [← HW.out];unfold cstB;rw [hcb];simp
       have HCC:=Lib.hid hcc;clear hcc hcb
       go_wp2_with fail
       go_roundw
       case rel =>
        refine ⟨p+1,by omega,by go_num,fun j hj=>?_,HSQ5.out,HCB5.out⟩
        by_cases e:j=p
        ·subst e;exact HCC.out
        ·exact HOK.out j (by omega)
       case measure=>simp [intOf];omega
     ·have hcc:cstB (W4 ci cr cp cs p)=true:=by rw [← HW.out];unfold cstB;simp [empty_eq hO]
      have HCC:=Lib.hid hcc;clear hcc
      go_wp2_with fail
      go_roundw
      case rel =>
       refine ⟨p+1,by omega,by go_num,fun j hj=>?_,HSQ.out,HCB.out⟩
       by_cases e:j=p
       ·subst e;exact HCC.out
       ·exact HOK.out j (by omega)
      case measure=>simp [intOf];omega
    ·have hpn:p=4:=by omega
     have hgt:¬ ((p:Int) < 4):=by omega
     have h4:((cstB ci && cstB cr) && (cstB cp && cstB cs))=true:=by
      have e0:=HOK.out 0 (by omega)
      have e1:=HOK.out 1 (by omega)
      have e2:=HOK.out 2 (by omega)
      have e3:=HOK.out 3 (by omega)
      rw [show cstB ci=true from e0,show cstB cr=true from e1,show cstB cp=true from e2,show cstB cs=true from e3];rfl
     have H4:=Lib.hid h4;clear h4 HOK hpn
     by_cases h1:most < 0
     ·have hb:okS n x ci cr cp cs most=false:=by unfold okS;rw [show decide (0≤most)=false by simp;omega];simp
      obtain ⟨m0,m1,g0,g1,hb1,hb2⟩:=HNO.out _ HSQ.out hb
      have HB1:=Lib.hid hb1;clear hb1
      have HB2:=Lib.hid hb2;clear hb2 hb
      go_wp2_with fail
      exact bodyPost_ret (results_e2 rfl _ (b:=rb) (v:=.int .i64 1) rfl rfl HB1.out) rfl HB2.out
     ·have h1':decide (most < 0)=false:=by simp;omega
      by_cases h6:(6:Int) < most
      ·have hb:okS n x ci cr cp cs most=false:=by unfold okS;rw [show decide (most≤6)=false by simp;omega];simp
       obtain ⟨m0,m1,g0,g1,hb1,hb2⟩:=HNO.out _ HSQ.out hb
       have HB1:=Lib.hid hb1;clear hb1
       have HB2:=Lib.hid hb2;clear hb2 hb
       go_wp2_with fail
       exact bodyPost_ret (results_e2 rfl _ (b:=rb) (v:=.int .i64 1) rfl rfl HB1.out) rfl HB2.out
      ·have h6':decide ((6:Int) < most)=false:=by simp;omega
       have hok:okS n x ci cr cp cs most=true:=by
        unfold okS;rw [HWN.out,H4.out,show decide (0≤most)=true by simp;omega,show decide (most≤6)=true by simp;omega];rfl
       have hzz:ZZ=if 400 < (simE n x ci cr cp cs most).n then (zeroE,2) else (simE n x ci cr cp cs most,0):=by
        rw [HZ.out];unfold simR;rw [if_neg (by rw [hok];simp)]
       have HZZ:=Lib.hid hzz;clear hzz hok
       obtain ⟨w3,hw3⟩:∃ w3,w3=wr.alloc (.cells #[.slice none 0 0,.int .i64 most] 24):=⟨_,rfl⟩
       obtain ⟨mb,hmb⟩:∃ mb,mb=wr.heap.size:=⟨_,rfl⟩
       have hsr:SrI w w3 rb mb ⟨0,fun _=>insD 0,most⟩ (.slice none 0 0) (fun _=>.nilIface) (fun _=>.nilIface):=by
        have h:=HSQ.out
        have hr:BxE w3 rb (.slice none 0 0) 0:=by rw [hw3];exact ((Fr.alloc (C:=fun _=>False) wr _).block rb (lt_of_block h.kr) (fun e=>e)).trans h.kr
        refine ⟨hr,by rw [hw3,hmb];exact heap_alloc_new wr _,OwE.empty _ _ _ rfl _ _,by rw [hw3];exact h.be.alloc h.be.size _,h.lr,by rw [hmb];exact h.be.size,fun e=>?_⟩
        have:=lt_of_block h.kr;omega
       have HSR:=Lib.hid (show ∃ sv F T,SrI w w3 rb mb ⟨0,fun _=>insD 0,most⟩ sv F T from ⟨_,_,_,hsr⟩);clear hsr
       have hnn:n*n≤10000:=Nat.mul_le_mul hn hn
       obtain ⟨M1,hM1⟩:∃ M1,M1=oneE insD ci x n ⟨0,fun _=>insD 0,most⟩:=⟨_,rfl⟩
       obtain ⟨M2,hM2⟩:∃ M2,M2=oneE remD cr x n M1:=⟨_,rfl⟩
       obtain ⟨M3,hM3⟩:∃ M3,M3=twoE repD cp x n n M2:=⟨_,rfl⟩
       obtain ⟨M4,hM4⟩:∃ M4,M4=twoE swpD cs x n n M3:=⟨_,rfl⟩
       have hsim:simE n x ci cr cp cs most=M4:=by rw [hM4,hM3,hM2,hM1];rfl
       rw [hsim] at HZZ
       have b1:=oneE_most insD ci x ⟨0,fun _=>insD 0,most⟩ n
       have b2:=oneE_most remD cr x M1 n
       have b3:=twoE_most repD cp x n M2 n
       have b4:=twoE_most swpD cs x n M3 n
       rw [← hM1] at b1
       rw [← hM2] at b2
       rw [← hM3] at b3
       rw [← hM4] at b4
       have k1:M1.n≤50000:=by have h:=b1.2;have h0:(⟨0,fun _=>insD 0,most⟩:EM).n=0:=rfl;omega
       have k2:M2.n≤50000:=by have h:=b1.2;have h0:(⟨0,fun _=>insD 0,most⟩:EM).n=0:=rfl;have:=b2.2;omega
       have k3:M3.n≤50000:=by have h:=b1.2;have h0:(⟨0,fun _=>insD 0,most⟩:EM).n=0:=rfl;have:=b2.2;have:=b3.2;omega
       have k4:(M4.n:Int)≤50000:=by have h:=b1.2;have h0:(⟨0,fun _=>insD 0,most⟩:EM).n=0:=rfl;have:=b2.2;have:=b3.2;have:=b4.2;omega
       have HM1:=Lib.hid hM1;clear hM1
       have HM2:=Lib.hid hM2;clear hM2
       have HM3:=Lib.hid hM3;clear hM3
       have HM4:=Lib.hid hM4;clear hM4
       clear b1 b2 b3 b4 hsim hnn HSQ HCB HNO
       go_wp2_with fail
       rw [← hw3,← hmb]
       clear hw3 hmb
       refine sloop6 (M0:=⟨0,fun _=>insD 0,most⟩) HA HBL HCL hn (by show 0≤50000;omega) HSR (Lib.hid ?pan6) (Lib.hid ?exit6)
       case pan6=>exact fun _ _ d _ _ h=>by cases d <;> exact h
       case exit6 =>
        intro v19 v91 v92 v93 v94 v95 v96 v97 v98 v99 v100 v101 v102 v103 v104 v105 v106 v107 v108 v109 v110 v111 v112 w4 h4
        rw [← HM1.out] at h4
        have HSR4:=Lib.hid h4;clear h4 HSR
        go_wp2_with fail
        refine sloop8 (M0:=M1) HA HBL HCL hn k1 HSR4 (Lib.hid ?pan8) (Lib.hid ?exit8)
        case pan8=>exact fun _ _ d _ _ h=>by cases d <;> exact h
        case exit8 =>
         intro v20 v113 v114 v115 v116 v117 v118 v119 v120 v121 v122 v123 v124 v125 v126 v127 v128 v129 v130 v131 v132 v133 v134 w5 h5
         rw [← HM2.out] at h5
         have HSR5:=Lib.hid h5;clear h5 HSR4
         go_wp2_with fail
         refine sloop10 (M0:=M2) HA HBL HCL hn k2 HND HSR5 (Lib.hid ?pan10) (Lib.hid ?exit10)
         case pan10=>exact fun _ _ d _ _ h=>by cases d <;> exact h
         case exit10 =>
          intro v21 v22 v135 v136 v137 v138 v139 v140 v141 v142 v143 v144 v145 v146 v147 v148 v149 v150 v151 v152 v153 v154 v155 v156 v157 v158 v159 v160 v161 v162 v163 v164 v165 v166 v167 v168 v169 v170 w6 h6
          rw [← HM3.out] at h6
          have HSR6:=Lib.hid h6;clear h6 HSR5
          go_wp2_with fail
          refine sloop14 (M0:=M3) HA HBL HCL hn k3 HND HSR6 (Lib.hid ?pan14) (Lib.hid ?exit14)
          case pan14=>exact fun _ _ d _ _ h=>by cases d <;> exact h
          case exit14 =>
           intro v23 v24 v171 v172 v173 v174 v175 v176 v177 v178 v179 v180 v181 v182 v183 v184 v185 v186 v187 v188 v189 v190 v191 v192 v193 v194 v195 v196 v197 v198 v199 v200 v201 v202 v203 v204 v205 v206 v207 v208 v209 v210 v211 v212 v213 v214 w7 h7
           rw [← HM4.out] at h7
           clear HSR6
           obtain ⟨sv,F,T,hsr⟩:=h7
           obtain ⟨sa,sc,hsv,_,_⟩:=row_any hsr.own.top
           subst hsv
           have n0:=cell_of hsr.km 0 rfl
           have n1:=cell_of hsr.km 1 rfl
           have hsq:SqI w w7 rb:=⟨hsr.kr,hsr.be,hsr.lr⟩
           have m0:=cell_of hsr.kr 0 rfl
           have m1:=cell_of hsr.kr 1 rfl
           have g0:w7.frozen? ⟨rb,0,none⟩=false:=by have hk:=hsr.kr;unfold BxE at hk;simp [World.frozen?,hk]
           have g1:w7.frozen? ⟨rb,1,none⟩=false:=by have hk:=hsr.kr;unfold BxE at hk;simp [World.frozen?,hk]
           by_cases h400:(400:Int) < (M4.n:Int)
           ·have h400':decide ((400:Int) < (M4.n:Int))=true:=by simp;omega
            have hz:ZZ=(zeroE,2):=HZZ.out.trans (if_pos (by omega))
            obtain ⟨_,_,_,_,hb1,hb2⟩:=hsq.err 2
            have hb3:NewR ZZ w (.returned (.tuple #[.agg #[.slice none 0 0,.int .i64 0],.int .i64 2])) ((w7.setCell ⟨rb,0,none⟩ (.slice none 0 0)).setCell ⟨rb,1,none⟩ (.int .i64 0)):=by rw [hz];exact hb2
            have HB1:=Lib.hid hb1;clear hb1
            have HB2:=Lib.hid hb3;clear hb2 hb3 hz
            go_wp2_with fail
            exact bodyPost_ret (results_e2 rfl _ (b:=rb) (v:=.int .i64 2) rfl rfl HB1.out) rfl HB2.out
           ·have h400':decide ((400:Int) < (M4.n:Int))=false:=by simp;omega
            have hz:ZZ=(M4,0):=HZZ.out.trans (if_neg (by omega))
            obtain ⟨W8,hW8⟩:∃ W8,W8=(w7.setCell ⟨rb,0,none⟩ (.slice sa M4.n sc)).setCell ⟨rb,1,none⟩ (.int .i64 M4.most):=⟨_,rfl⟩
            have hb1:BxE W8 rb (.slice sa M4.n sc) M4.most:=by rw [hW8];exact bxe_set hsr.kr
            have hb2:NewR ZZ w (.returned (.tuple #[.agg #[.slice sa M4.n sc,.int .i64 M4.most],.int .i64 0])) W8:=by
             rw [hz,hW8]
             refine ⟨(hsr.be.setCell (p:=⟨rb,0,none⟩) hsr.lr _).setCell (p:=⟨rb,1,none⟩) hsr.lr _,_,rfl,?_⟩
             have hfr:Fr (fun c=>c=rb) w7 ((w7.setCell ⟨rb,0,none⟩ (.slice sa M4.n sc)).setCell ⟨rb,1,none⟩ (.int .i64 M4.most)):=((Fr.refl (fun c=>c=rb) w7).set (p:=⟨rb,0,none⟩) (.inl rfl) _).set (p:=⟨rb,1,none⟩) (.inl rfl) _
             have hkr:=hsr.kr
             unfold BxE at hkr
             exact (hsr.own.kept hfr (fun b hb e=>own_blk hsr.own.top hsr.kr (by decide) (by rw [hb,e])) (fun b c f hb e=>by rw [e,hkr] at hb;simp at hb)).eds
            have HB1:=Lib.hid hb1;clear hb1
            have HB2:=Lib.hid hb2;clear hb2 hz
            clear hsq hsr
            go_wp2_with fail
            rw [← hW8]
            exact bodyPost_ret (results_e2 rfl _ (b:=rb) (v:=.int .i64 0) rfl rfl HB1.out) rfl HB2.out
end Go.Proofs.YtjekapjbigfkbaaGreatDoor
