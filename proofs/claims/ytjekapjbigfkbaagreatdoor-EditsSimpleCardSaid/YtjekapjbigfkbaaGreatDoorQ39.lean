/- Parts of a proof: LEs AM ArgI. -/
import Derived.Test.YtjekapjbigfkbaaGreatDoorQ37
import Derived.Test.YtjekapjbigfkbaaGreatDoorQ38
import Derived.Test.YtjekapjbigfkbaaGreatDoorQ16
import Derived.Deep.Slices
import Derived.SliceStrings
import Derived.ChangeSlices
import Derived.Test.YtjekapjbigfkbaaGreatDoorQ17
import Derived.Lib.SmallJoins
import Derived.Deep.SlicePairs
import Derived.SizedLaws
namespace Go.Proofs.YtjekapjbigfkbaaGreatDoor
open Go Go.RowKit Go.Deep
set_option maxRecDepth 100000
set_option linter.unusedSimpArgs false
def OkM (M:EM):Prop:=∀ i,i < M.n→EdOk (M.e i)
theorem apE_ok {M:EM} {d:ED} (h:OkM M) (hd:EdOk d):OkM (apE M d):=fun i hi=>by
 show EdOk (if i=M.n then d else M.e i)
 split
 ·exact hd
 ·exact h i (by have:i < M.n+1:=hi;omega)
theorem oneE_ok {mk:Int→ED} {ws:ByteArray} {x:Nat→Int} {M:EM} (h:OkM M):∀ n,(∀ i,i < n→ws≠⟨#[]⟩→EdOk { mk (x i) with w:=ws })→OkM (oneE mk ws x n M)
 | 0,_=>h
 | n+1,hm=>by
  have ih:=oneE_ok (mk:=mk) (ws:=ws) (x:=x) h n fun i hi=>hm i (by omega)
  unfold oneE;split
  ·exact ih
  ·rename_i hw;exact apE_ok ih (hm n (by omega) hw)
theorem rowE_ok {mk:Int→Int→ED} {ws:ByteArray} {x:Nat→Int} {k:Nat} {M:EM} (h:OkM M):∀ n,(∀ i,i < n→ws≠⟨#[]⟩→EdOk { mk (x k) (x i) with w:=ws })→OkM (rowE mk ws x k n M)
 | 0,_=>h
 | n+1,hm=>by
  have ih:=rowE_ok (mk:=mk) (ws:=ws) (x:=x) (k:=k) h n fun i hi=>hm i (by omega)
  unfold rowE;split
  ·rename_i hw;exact apE_ok ih (hm n (by omega) hw.1)
  ·exact ih
theorem twoE_ok {mk:Int→Int→ED} {ws:ByteArray} {x:Nat→Int} {m:Nat} {M:EM} (h:OkM M):∀ n,(∀ k i,k < n→i < m→ws≠⟨#[]⟩→EdOk { mk (x k) (x i) with w:=ws })→OkM (twoE mk ws x m n M)
 | 0,_=>h
 | n+1,hm=>rowE_ok (twoE_ok h n fun k i hk=>hm k i (by omega)) m fun i hi=>hm n i (by omega) hi
theorem simE_most (n:Nat) (x:Nat→Int) (a b c d:ByteArray) (most:Int):(simE n x a b c d most).most=most:=by
 unfold simE
 rw [(twoE_most swpD d x n _ n).1,(twoE_most repD c x n _ n).1,(oneE_most remD b x _ n).1,(oneE_most insD a x _ n).1]
theorem simE_VE {n:Nat} {x:Nat→Int} {a b c d:ByteArray} {most:Int} (h:okS n x a b c d most=true) (h4:(simE n x a b c d most).n≤400):VE (simE n x a b c d most):=by
 unfold okS at h
 simp only [Bool.and_eq_true,decide_eq_true_eq] at h
 obtain ⟨⟨⟨hw,_⟩,⟨ha,hb⟩,hc,hd⟩,h0,h6⟩:=h
 have hx:=wordB_iff.1 hw
 have hco:∀ s:ByteArray,cstB s=true→s≠⟨#[]⟩→costOk s:=fun s hs hn=>by
  unfold cstB at hs
  rw [Bool.or_eq_true] at hs
  rcases hs with hs | hs
  ·exact absurd (of_decide_eq_true hs) hn
  ·exact costB_iff.1 hs
 refine ⟨h4,by rw [simE_most];exact h0,by rw [simE_most];exact h6,?_⟩
 refine twoE_ok (twoE_ok (oneE_ok (oneE_ok (fun i hi=>absurd hi (Nat.not_lt_zero _)) n ?_) n ?_) n ?_) n ?_
 ·exact fun i hi hn=>⟨by show 0≤6;omega,by show 1≤6;omega,by show 0 < 0+1;omega,fun j hj=>absurd hj (Nat.not_lt_zero _),fun j _=>hx i hi,hco a ha hn⟩
 ·exact fun i hi hn=>⟨by show 1≤6;omega,by show 0≤6;omega,by show 0 < 1+0;omega,fun j _=>hx i hi,fun j hj=>absurd hj (Nat.not_lt_zero _),hco b hb hn⟩
 ·exact fun k i hk hi hn=>⟨by show 1≤6;omega,by show 1≤6;omega,by show 0 < 1+1;omega,fun j _=>hx k hk,fun j _=>hx i hi,hco c hc hn⟩
 ·refine fun k i hk hi hn=>⟨by show 2≤6;omega,by show 2≤6;omega,by show 0 < 2+2;omega,fun j _=>?_,fun j _=>?_,hco d hd hn⟩
  ·show 1≤(if j=0 then x k else x i)∧(if j=0 then x k else x i)≤500
   split
   ·exact hx k hk
   ·exact hx i hi
  ·show 1≤(if j=0 then x i else x k)∧(if j=0 then x i else x k)≤500
   split
   ·exact hx i hi
   ·exact hx k hk
theorem zeroE_sz:ESz zeroE:=⟨by decide,fun _=>by show ((0:Nat):Int)≤_;omega,fun _=>by show ((1:Nat):Int)≤_;omega,fun _=>by show (((⟨#[]⟩:ByteArray).size:Nat):Int)≤_;decide,by decide,by decide⟩
theorem simR_law {n:Nat} {x:Nat→Int} {a b c d:ByteArray} {most:Int} (h1:smS a) (h2:smS b) (h3:smS c) (h4:smS d) (hn:n≤100) (hm:-9223372036854775808≤most∧most≤9223372036854775807) :
  ESz (simR n x a b c d most).1∧((simR n x a b c d most).2=0→VE (simR n x a b c d most).1):=by
 unfold simR
 cases ho:okS n x a b c d most
 ·rw [if_pos rfl];exact ⟨zeroE_sz,fun h=>by cases h⟩
 ·rw [if_neg (by simp)]
  split
  ·exact ⟨zeroE_sz,fun h=>by cases h⟩
  ·exact ⟨simE_sz h1 h2 h3 h4 hn hm,fun _=>simE_VE ho (by omega)⟩
set_option maxHeartbeats 16000000 in
theorem editsSimple_any {n:Nat} {lv:Value} {x:Nat→Int} {ci cr cp cs:ByteArray} {most:Int} (w:World) (hx:Si none w lv n x) (h1:ci.size≤maxLen) (h2:cr.size≤maxLen) (h3:cp.size≤maxLen) (h4:cs.size≤maxLen) (hm:(Lit.int .i64 most).wf=true) (ht:Tab w) :
  Calls Tryz.prog 6 #[lv,.string ci,.string cr,.string cp,.string cs,.int .i64 most] w (TrueB w):=by
 have hml:maxLen≤9223372036854775807:=by decide
 have k1:smS ci:=by unfold smS;omega
 have k2:smS cr:=by unfold smS;omega
 have k3:smS cp:=by unfold smS;omega
 have k4:smS cs:=by unfold smS;omega
 have hmo:-9223372036854775808≤most∧most≤9223372036854775807:=by
  simp [Lit.wf,IntKind.min,IntKind.max,IntKind.signed,IntKind.bits] at hm
  omega
 have hnl:=le_of_len hx
 obtain ⟨al,cl,rfl⟩:=hx.shape
 have hex:∀ W,Below w.heap.size w W→Calls Tryz.prog 12 #[] W (TrueB W):=fun W h=>example37_any W (ht.below h (Nat.le_refl _))
 have HEX:=Lib.hid hex;clear hex
 have HB0:=Lib.hid (Below.refl w.heap.size w)
 by_cases h100:(100:Int) < (n:Int)
 ·have h100':decide ((100:Int) < (n:Int))=true:=by simp;omega
  clear hx ht h1 h2 h3 h4 hm k1 k2 k3 k4
  go_enter Tryz.func6,Tryz.ntmps6
  go_wp2_with fail
  refine (HEX.out w HB0.out).mono ?_
  rintro rr w1 ⟨rfl,hb1⟩
  have HB1:=Lib.hid hb1;clear hb1
  go_wp2_with fail
  go_ret
  exact ⟨rfl,HB1.out⟩
 have h100':decide ((100:Int) < (n:Int))=false:=by simp;omega
 have hn:n≤100:=by omega
 have hes:=fun W (h:Below w.heap.size w W)=>esimple_any ci cr cp cs most W (hx.kept (gb_below h none)) hn (ht.below h (Nat.le_refl _)) k1 k2 k3 k4
 have hrs:=fun W (h:Below w.heap.size w W)=>rsimple_any ci cr cp cs most W (hx.kept (gb_below h none)) hn k1 k2 k3 k4
 have hlaw:=simR_law (x:=x) k1 k2 k3 k4 hn hmo
 obtain ⟨ZZ,hZZ⟩:∃ ZZ,ZZ=simR n x ci cr cp cs most:=⟨_,rfl⟩
 rw [← hZZ] at hes hrs hlaw
 clear hZZ
 obtain ⟨M,E⟩:=ZZ
 have HSZ:=Lib.hid (show ESz M from hlaw.1)
 have HVE:=Lib.hid (show E=0→VE M from hlaw.2)
 have hva:=fun W (h:Below w.heap.size w W) (v:Value) (hv:EdS none W v M)=>evalid_any W (⟨_,rfl,hv⟩:Em none W (.agg #[v,.int .i64 M.most]) M) hlaw.1 (ht.below h (Nat.le_refl _))
 have HES:=Lib.hid hes;clear hes
 have HRS:=Lib.hid hrs;clear hrs
 have HVA:=Lib.hid hva;clear hva
 clear hlaw hx ht h1 h2 h3 h4 hm k1 k2 k3 k4 h100 hmo hml
 go_enter Tryz.func6,Tryz.ntmps6
 go_wp2_with fail
 refine (HES.out w HB0.out).mono ?_
 rintro rr w1 ⟨hb1,sv1,rfl,hs1⟩
 have hs1':EdS none w1 sv1 M:=hs1
 obtain ⟨a1,c1,_,_,_,_,_,_,hv1,_⟩:=hs1'.open
 subst hv1
 have HB1:=Lib.hid hb1;clear hb1 HB0 HES
 obtain ⟨mo,hmo⟩:∃ mo,mo=M.most:=⟨_,rfl⟩
 obtain ⟨W2,hW2⟩:∃ W2,W2=w1.alloc (.cells #[.slice a1 M.n c1,.int .i64 mo] 24):=⟨_,rfl⟩
 obtain ⟨mb,hmb⟩:∃ mb,mb=w1.heap.size:=⟨_,rfl⟩
 have hf2:Fr (fun _=>False) w1 W2:=by rw [hW2];exact Fr.alloc _ _
 have hbx:BxE W2 mb (.slice a1 M.n c1) mo:=by rw [hW2,hmb];exact heap_alloc_new w1 _
 have HBX:=Lib.hid hbx;clear hbx
 have hb2:Below w.heap.size w W2:=HB1.out.trans (hf2.below HB1.out.size (fun _ e=>e.elim))
 have HB2:=Lib.hid hb2;clear hb2
 have HS2:=Lib.hid (show EdS none W2 (.slice a1 M.n c1) M from hs1'.kept (Fr.gb (hf2.mono (fun _ _ e=>e.elim))));clear hs1 hs1' hf2
 have HMO:=Lib.hid hmo
 rw [show ((M,E):EM × Nat).1.most=mo from hmo.symm,show (((M,E):EM × Nat).2:Int)=(E:Int) from rfl]
 clear hmo
 go_wp2_with fail
 rw [← hW2,← hmb]
 clear hW2 hmb
 refine (HRS.out W2 HB2.out).mono ?_
 rintro rr w3 ⟨hb3,sv3,rfl,hs3⟩
 have hs3':EdS none w3 sv3 M:=hs3
 obtain ⟨a3,c3,_,_,_,_,_,_,hv3,_⟩:=hs3'.open
 subst hv3
 have HB3:=Lib.hid (HB2.out.trans (hb3.mono HB2.out.size))
 have HBX3:=Lib.hid (show BxE w3 mb (.slice a1 M.n c1) mo from (hb3.block mb (lt_of_block HBX.out)).trans HBX.out)
 have HS3:=Lib.hid (HS2.out.kept (gb_below hb3 none))
 clear hb3 HB2 HRS HBX HS2 HB1
 obtain ⟨W4,hW4⟩:∃ W4,W4=w3.alloc (.cells #[.slice a3 M.n c3,.int .i64 mo] 24):=⟨_,rfl⟩
 obtain ⟨nb,hnb⟩:∃ nb,nb=w3.heap.size:=⟨_,rfl⟩
 have hf4:Fr (fun _=>False) w3 W4:=by rw [hW4];exact Fr.alloc _ _
 have hbn:BxE W4 nb (.slice a3 M.n c3) mo:=by rw [hW4,hnb];exact heap_alloc_new w3 _
 have hbm:BxE W4 mb (.slice a1 M.n c1) mo:=(hf4.block mb (lt_of_block HBX3.out) (fun e=>e)).trans HBX3.out
 have HB4:=Lib.hid (show Below w.heap.size w W4 from HB3.out.trans (hf4.below HB3.out.size (fun _ e=>e.elim)))
 have HS4:=Lib.hid (show EdS none W4 (.slice a1 M.n c1) M from HS3.out.kept (Fr.gb (hf4.mono (fun _ _ e=>e.elim))))
 have hs4:EdS none W4 (.slice a3 M.n c3) M:=hs3'.kept (Fr.gb (hf4.mono (fun _ _ e=>e.elim)))
 have hsame:=rsame_any W4 HS4.out hs4 HSZ.out
 rw [← HMO.out] at hsame
 have HSAME:=Lib.hid hsame;clear hsame hs4 hs3 hs3' hf4
 have m0:=cell_of hbm 0 rfl
 have m1:=cell_of hbm 1 rfl
 have n0:=cell_of hbn 0 rfl
 have n1:=cell_of hbn 1 rfl
 have HBM:=Lib.hid hbm;clear hbm hbn
 rw [show ((M,E):EM × Nat).1.most=mo from HMO.out.symm,show (((M,E):EM × Nat).2:Int)=(E:Int) from rfl]
 have e0:=m0
 have e1:=m1
 have d0:=n0
 have d1:=n1
 rw [hW4] at m0 m1 n0 n1
 rw [hnb] at n0 n1
 go_wp2_with fail
 rw [← hW4,← hnb]
 clear hW4 hnb m0 m1 n0 n1 e0 e1 d0 d1 HB3 HBX3 HS3
 refine HSAME.out.mono ?_
 rintro rr w5 ⟨rfl,hb5⟩
 have HB5:=Lib.hid (HB4.out.trans (hb5.mono HB4.out.size))
 have hbm5:BxE w5 mb (.slice a1 M.n c1) mo:=(hb5.block mb (lt_of_block HBM.out)).trans HBM.out
 have HS5:=Lib.hid (HS4.out.kept (gb_below hb5 none))
 have m0:=cell_of hbm5 0 rfl
 have m1:=cell_of hbm5 1 rfl
 clear hb5 HB4 HBM HS4 HSAME hbm5
 by_cases hE:E=0
 ·have hEz:(E:Int)=0:=by omega
  have hv5:=HVA.out w5 HB5.out _ HS5.out
  rw [← HMO.out] at hv5
  have HV5:=Lib.hid hv5;clear hv5
  have HVM:=Lib.hid (HVE.out hE)
  clear hE
  go_wp2_with fail
  refine HV5.out.mono ?_
  rintro rr w6 ⟨hb6,hr⟩
  obtain rfl:rr=.returned (.bool true):=by
   rcases hr with ⟨_,h⟩ | ⟨hno,_⟩
   ·exact h
   ·exact absurd HVM.out hno
  have HB6:=Lib.hid (HB5.out.trans (hb6.mono HB5.out.size));clear hb6 hr m0 m1 HV5
  go_wp2_with fail
  refine (HEX.out w6 HB6.out).mono ?_
  rintro rr w7 ⟨rfl,hb7⟩
  have HB7:=Lib.hid (HB6.out.trans (hb7.mono HB6.out.size));clear hb7
  go_wp2_with fail
  go_ret
  exact ⟨rfl,HB7.out⟩
 ·have hEz:¬ ((E:Int)=0):=by omega
  have hEb:((E:Int) == 0)=false:=by simp;omega
  have hEd:decide ((E:Int)=0)=false:=by simp;omega
  clear hE m0 m1
  go_wp2_with fail
  refine (HEX.out w5 HB5.out).mono ?_
  rintro rr w7 ⟨rfl,hb7⟩
  have HB7:=Lib.hid (HB5.out.trans (hb7.mono HB5.out.size));clear hb7
  go_wp2_with fail
  go_ret
  exact ⟨rfl,HB7.out⟩
end Go.Proofs.YtjekapjbigfkbaaGreatDoor

namespace Go.Proofs.YtjekapjbigfkbaaGreatDoor
open Go Go.RowKit Go.Deep Go.ChangeShapes Go.WideShapes
set_option maxRecDepth 100000
end Go.Proofs.YtjekapjbigfkbaaGreatDoor
namespace Go.Proofs.YtjekapjbigfkbaaGreatDoor
open Go Go.RowKit Go.Deep Go.ChangeShapes Go.WideShapes Go.Joins
set_option maxRecDepth 100000
end Go.Proofs.YtjekapjbigfkbaaGreatDoor

namespace Go.Proofs.YtjekapjbigfkbaaGreatDoor
open Go Go.RowKit Go.Deep Go.ChangeShapes Go.WideShapes
set_option maxRecDepth 100000
theorem arg_ints {H:Type} {enc:TypeId × Value→H} {W:World} {held:Bool} {fuel:Nat} {v:Value} {x:DataW H × List MemPlace} (h:DataW.trod enc Tryz.prog W 0 (fun _=>true) held fuel 27 [v]=some x) :
  ∃ (n:Nat) (wk:Nat→Int),Rd none W v n fun i=>.int .i64 (wk i):=by
 rcases open_slice1 Tryz.underlying27 (by kernel_rfl) h with ⟨hc,_⟩ | ⟨a,len,cap,m,n',V,D,Pl,hc,_,hl,hm,hmm,_,hx⟩
 ·simp only [List.cons.injEq,and_true] at hc
  exact ⟨0,fun _=>0,.inl ⟨rfl,none,0,hc,Nat.zero_le _⟩⟩
 ·simp only [List.cons.injEq,and_true] at hc
  simp only [if_true] at hmm
  subst hmm
  classical
  have hall:∀ i,∃ z:Int,i < m→V i=.int .i64 z:=fun i=>by
   by_cases hi:i < m
   ·obtain ⟨z,hz,_⟩:=DataW.trod_int Tryz.underlying3 (hx i hi).2
    exact ⟨z,fun _=>by simpa using hz⟩
   ·exact ⟨0,fun h=>absurd h hi⟩
  refine ⟨len,fun i=>Classical.choose (hall i),?_⟩
  by_cases h0:len=0
  ·subst h0;exact .inl ⟨rfl,some a,m,hc,hm⟩
  ·have c0:=(hx 0 (by omega)).1
   have hs:a.spot=none:=by simpa [Addr.add] using World.cell?_spot c0
   obtain ⟨b,off,sp⟩:=a
   simp only at hs;subst hs
   refine .inr ⟨b,off,m,hc,⟨?_,by simp⟩,hl,hm,fun j hj=>?_⟩
   ·have:=World.block_lt_of_cell? _ _ c0
    rw [Addr.add_lit] at this;exact this
   ·have:=(hx j (by omega)).1
    rw [Addr.add_lit,Classical.choose_spec (hall j) (by omega)] at this;exact this
end Go.Proofs.YtjekapjbigfkbaaGreatDoor
