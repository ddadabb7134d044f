/- Parts of a proof: EdLi LE0 LEc AM ArgI ArgE. -/
import Derived.Test.YtjekapjbigfkbaaGreatDoorK40
import Derived.Test.YtjekapjbigfkbaaGreatDoorK32
import Derived.Test.YtjekapjbigfkbaaGreatDoorK16
import Derived.Deep.Slices
import Derived.SliceStrings
import Derived.ChangeSlices
import Derived.Test.YtjekapjbigfkbaaGreatDoorK17
import Derived.Lib.SmallJoins
import Derived.Deep.SlicePairs
import Derived.SizedLaws
import Derived.Test.YtjekapjbigfkbaaGreatDoorK18
import Derived.Deep.Strs
namespace Go.Proofs.YtjekapjbigfkbaaGreatDoor
open Go Go.RowKit Go.Deep
set_option maxRecDepth 100000
set_option linter.unusedSimpArgs false
def dgc (s:ByteArray) (i:Nat):Nat:=((bts s).take i).countP dgt
theorem dgc_succ (s:ByteArray) (k:Nat) (h:k < s.size):dgc s (k+1)=dgc s k+if dgt s[k] then 1 else 0:=by
 unfold dgc
 rw [take_snoc s k h,List.countP_append,List.countP_singleton]
theorem dgc_le (s:ByteArray) (k:Nat):dgc s k≤k:=by
 unfold dgc
 exact Nat.le_trans List.countP_le_length (by rw [List.length_take];omega)
theorem dig_count (n:Nat):(dec n).countP dgt=(dec n).length:=List.countP_eq_length.2 fun a ha=>List.all_eq_true.1 (dgts_dec n) a ha
theorem dig_sz {q:Rat} (h:(txtL q).countP dgt≤4):szQ 5 q:=by
 unfold txtL at h
 have h0:(if negQ q then [45] else []:List UInt8).countP dgt=0:=by cases negQ q <;> decide
 rw [List.countP_append,List.countP_append,h0,dig_count] at h
 refine ⟨(dec_len_lt.1 (show (dec q.num.natAbs).length≤5 by omega)).1,?_⟩
 by_cases hd:q.den=1
 ·rw [hd];decide
 ·rw [if_neg hd,List.countP_cons,dig_count] at h
  exact (dec_len_lt.1 (show (dec q.den).length≤5 by omega)).1
theorem dgc_sz {s:ByteArray} {q:Rat} (h:prs s=some q) (hd:dgc s s.size≤4):szQ 5 q:=by
 obtain ⟨rfl,_⟩:=txt_prs h
 refine dig_sz ?_
 have h1:bts (txt q)=txtL q:=bts_str _
 unfold dgc at hd
 rw [List.take_of_length_le (by rw [bts_len];exact Nat.le_refl _),h1] at hd
 exact hd
def TestP (p:Prop) (w:World) (r:Ending) (w':World):Prop:=∃ b:Bool,r=.returned (.bool b)∧(b=true↔p)∧Below w.heap.size w w'
def LitE (M:EM):Prop:=∀ i,i < M.n→dgc (M.e i).w (M.e i).w.size≤4
theorem LitE.fit {P:EP} (hV:VE P.M) (h:LitE P.M):¬ TooL P:=small_fits hV.m0 hV.m6 fun i hi=>dgc_sz (hV.ok i hi).q (h i hi)
set_option maxHeartbeats 4000000 in
theorem large37_any {M:EM} {sv:Value} (w:World) (hS:EdS none w sv M) :
  Calls Tryz.prog 15 #[.agg #[sv,.int .i64 M.most]] w (fun r w'=>r=.returned (.bool (decide ((60:Int) < (M.n:Int))))∧Below w.heap.size w w'):=by
 obtain ⟨a,cap,_,_,_,_,_,_,rfl,_⟩:=hS.open
 clear hS
 obtain ⟨w1,hw1⟩:∃ w1,w1=w.alloc (.cells #[.slice a M.n cap,.int .i64 M.most] 24):=⟨_,rfl⟩
 obtain ⟨mb,hmb⟩:∃ mb,mb=w.heap.size:=⟨_,rfl⟩
 have hbx:BoxE w1 mb M (.slice a M.n cap):=by rw [hw1,hmb];exact BoxE.new w M _
 have hb1:Below w.heap.size w w1:=by rw [hw1];exact (Below.refl _ _).alloc (Nat.le_refl _) _
 have m0:=hbx.c0
 have HB1:=Lib.hid hb1;clear hb1 hbx
 go_enter Tryz.func15,Tryz.ntmps15
 go_wp2_with fail
 rw [← hw1,← hmb]
 have HMB:=Lib.hid hmb;clear hw1 hmb
 go_wp2_with fail
 go_ret
 exact ⟨rfl,HMB.out ▸ HB1.out⟩
set_option maxHeartbeats 4000000 in
theorem far37_any {n:Nat} {b:Nat} {V:Nat→Value} {L:Nat→Nat} (w:World) (hn:n≤10) (hv:∀ i,i < n→w.cell? ⟨b,i,none⟩=some (V i)∧∃ x,Si none w (V i) (L i) x) (hl:∀ i,i < n→(L i:Int)≤9223372036854775807) :
  Calls Tryz.prog 16 #[.slice (some ⟨b,0,none⟩) n n] w (TestP (∃ i,i < n∧12 < L i) w):=by
 have HV:=Lib.hid hv;clear hv
 have HL:=Lib.hid hl;clear hl
 go_enter Tryz.func16,Tryz.ntmps16
 go_wp2_with fail
 go_loopw [3] (fun i wr=>∃ q:Nat,q≤n∧i=.int .i64 (q:Int)∧(∀ j,j < q→L j≤12)∧wr=w) (fun i _=>n - (intOf i).toNat)
 case atStart=>exact ⟨0,Nat.zero_le _,rfl,fun j hj=>by omega,rfl⟩
 case round =>
  obtain ⟨q,hq,rfl,hno,rfl⟩:=hrel
  have HNO:=Lib.hid hno;clear hno
  by_cases hlt:q < n
  ·have hqz:(q:Int) < (n:Int):=by omega
   have hqz0:(0:Int)≤(q:Int):=by omega
   obtain ⟨c0,x,hx⟩:=HV.out q hlt
   obtain ⟨a,cap,hx⟩:=hx.shape
   rw [hx] at c0
   have hlq:=HL.out q hlt
   obtain ⟨lq,hlqe⟩:∃ lq,lq=L q:=⟨_,rfl⟩
   rw [← hlqe] at c0 hlq
   have HLQ:=Lib.hid hlqe;clear hlqe hx
   by_cases h12:(12:Int) < (lq:Int)
   ·go_wp2_with fail
    go_ret
    exact ⟨true,rfl,⟨fun _=>⟨q,hlt,by rw [← HLQ.out];omega⟩,fun _=>rfl⟩,Below.refl _ _⟩
   ·have h12':decide ((12:Int) < (lq:Int))=false:=by simp;omega
    go_wp2_with fail
    go_roundw
    case rel =>
     refine ⟨q+1,by omega,by go_num,fun j hj=>?_,by first | rfl | trivial⟩
     by_cases e:j=q
     ·rw [e,← HLQ.out];omega
     ·exact HNO.out j (by omega)
    case measure=>simp [intOf];omega
  ·have hqn:q=n:=by omega
   have hgt:¬ ((q:Int) < (n:Int)):=by omega
   have HQ:=Lib.hid hqn;clear hqn
   go_wp2_with fail
   go_ret
   exact ⟨false,rfl,⟨(fun h=>by cases h),fun ⟨i,hi,h⟩=>by have:=HNO.out i (by rw [HQ.out];exact hi);omega⟩,Below.refl _ _⟩
set_option maxHeartbeats 4000000 in
theorem rlittle37_any {M:EM} {sv:Value} (w:World) (hS:EdS none w sv M) (hs:ESz M) :
  Calls Tryz.prog 19 #[.agg #[sv,.int .i64 M.most]] w (TestP (LitE M) w):=by
 obtain ⟨a,cap,b,off,A,A',C,C',rfl,ha,hc,hm,hb,hrow⟩:=hS.open
 unfold maxLen at hm
 clear hS
 have hbox:=BoxE.new w M (.slice a M.n cap)
 have hbel:Below w.heap.size w (w.alloc (.cells #[.slice a M.n cap,.int .i64 M.most] 24)):=(Below.refl _ _).alloc (Nat.le_refl _) _
 have hnn:=hs.n
 have HSZ:=Lib.hid hs;clear hs
 have HA:=Lib.hid ha;clear ha
 have HB:=Lib.hid hb;clear hb
 have HR:=Lib.hid hrow;clear hrow
 have m0:=hbox.c0
 have HBX:=Lib.hid hbox;clear hbox
 have HBE:=Lib.hid hbel;clear hbel
 go_enter Tryz.func19,Tryz.ntmps19
 go_wp2_with fail
 obtain ⟨wm,hwm⟩:∃ wm,wm=w.alloc (.cells #[.slice a M.n cap,.int .i64 M.most] 24):=⟨_,rfl⟩
 obtain ⟨mb,hmb⟩:∃ mb,mb=w.heap.size:=⟨_,rfl⟩
 rw [← hwm] at HBE
 rw [← hwm,← hmb] at HBX
 rw [← hwm,← hmb]
 clear hwm hmb m0
 go_loopw [3] (fun i wr=>∃ q:Nat,q≤M.n∧i=.int .i64 (q:Int)∧(∀ l,l < q→dgc (M.e l).w (M.e l).w.size≤4)∧Below w.heap.size w wr∧BoxE wr mb M (.slice a M.n cap)) (fun i _=>M.n - (intOf i).toNat)
 case atStart=>exact ⟨0,Nat.zero_le _,rfl,fun l hl=>by omega,HBE.out,HBX.out⟩
 case round =>
  obtain ⟨q,hq,rfl,hok,hbw,hbx⟩:=hrel
  clear HBE HBX
  have HOK:=Lib.hid hok;clear hok
  have HBW:=Lib.hid hbw;clear hbw
  have HBX:=Lib.hid hbx;clear hbx
  have m0:=HBX.out.c0
  by_cases hlt:q < M.n
  ·have hqz:(q:Int) < (M.n:Int):=by omega
   have hqz0:(0:Int)≤(q:Int):=by omega
   obtain rfl:=HA.out (by omega)
   have hbb:=(HB.out (by omega)).1
   obtain ⟨_,_,k3,_,_⟩:=HR.out q hlt
   have c2:=(HBW.out.cell (p:=⟨b,off+q*3+2,none⟩) hbb).trans k3
   clear k3
   have hsz:=HSZ.out.w q
   obtain ⟨s,hse⟩:∃ s,s=(M.e q).w:=⟨_,rfl⟩
   rw [← hse] at c2 hsz
   have HSE:=Lib.hid hse;clear hse
   have C2:=Lib.hid c2;clear c2
   have M0:=Lib.hid m0
   obtain ⟨wo,rfl⟩:∃ wo:World,wo=wr:=⟨_,rfl⟩
   go_wp2_with fail
   clear m0
   go_loopw [4,5] (fun c i wr=>∃ k:Nat,k≤s.size∧i=.int .i64 (k:Int)∧c=.int .i64 (dgc s k:Nat)∧Below wo.heap.size wo wr) (fun _ i _=>s.size - (intOf i).toNat)
   case atStart=>exact ⟨0,Nat.zero_le _,rfl,rfl,Below.refl _ _⟩
   case round =>
    obtain ⟨k,hk,rfl,rfl,hbi⟩:=hrel
    have HBI:=Lib.hid hbi;clear hbi
    have m0:=(HBI.out.cell (p:=⟨mb,0,none⟩) HBX.out.lt).trans M0.out
    have c2:=(HBI.out.cell (p:=⟨b,off+q*3+2,none⟩) (Nat.lt_of_lt_of_le hbb HBW.out.size)).trans C2.out
    by_cases hlt2:k < s.size
    ·have hkz:(k:Int) < (s.size:Int):=by omega
     have hkz0:(0:Int)≤(k:Int):=by omega
     have hds:=dgc_succ s k hlt2
     have hdl:=dgc_le s k
     by_cases hlo:(s[k].toNat:Int) < 48
     ·rw [dgt_lo hlo] at hds
      have HDS:=Lib.hid hds;clear hds
      have hlo':decide ((48:Int)≤(s[k].toNat:Int))=false:=by simp;omega
      go_wp2_with fail
      go_roundw
      case rel=>exact ⟨k+1,by omega,by go_num,by rw [HDS.out];rfl,HBI.out⟩
      case measure=>simp [intOf];omega
     ·by_cases hhi:(57:Int) < (s[k].toNat:Int)
      ·rw [dgt_hi hhi] at hds
       have HDS:=Lib.hid hds;clear hds
       have hlo':decide ((48:Int)≤(s[k].toNat:Int))=true:=by simp;omega
       have hhi':decide ((s[k].toNat:Int)≤57)=false:=by simp;omega
       go_wp2_with fail
       go_roundw
       case rel=>exact ⟨k+1,by omega,by go_num,by rw [HDS.out];rfl,HBI.out⟩
       case measure=>simp [intOf];omega
      ·rw [dgt_true (by omega) (by omega),if_pos rfl] at hds
       have HDS:=Lib.hid hds;clear hds
       have hlo':decide ((48:Int)≤(s[k].toNat:Int))=true:=by simp;omega
       have hhi':decide ((s[k].toNat:Int)≤57)=true:=by simp;omega
       go_wp2_with fail
       go_roundw
       case rel=>exact ⟨k+1,by omega,by go_num,by rw [HDS.out];go_num,HBI.out⟩
       case measure=>simp [intOf];omega
    ·have hkn:k=s.size:=by omega
     have hgt:¬ ((k:Int) < (s.size:Int)):=by omega
     have hdl:=dgc_le s k
     have HKN:=Lib.hid hkn;clear hkn
     have HBE:=Lib.hid (HBW.out.trans (HBI.out.mono HBW.out.size))
     have HBX2:=Lib.hid (show BoxE wr mb M (.slice (some ⟨b,off,none⟩) M.n cap) from (HBI.out.block mb HBX.out.lt).trans HBX.out)
     by_cases h4:(4:Int) < (dgc s k:Int)
     ·go_wp2_with fail
      go_ret
      exact ⟨false,rfl,⟨(fun h=>by cases h),fun h=>by have h1:=h q hlt;rw [← HSE.out,← HKN.out] at h1;omega⟩,HBE.out⟩
     ·have h4':decide ((4:Int) < (dgc s k:Int))=false:=by simp;omega
      go_wp2_with fail
      go_roundw
      case rel =>
       refine ⟨q+1,by omega,by go_num,fun l hl=>?_,HBE.out,HBX2.out⟩
       by_cases e:l=q
       ·rw [e,← HSE.out,← HKN.out];omega
       ·exact HOK.out l (by omega)
      case measure=>simp [intOf];omega
  ·have hqn:q=M.n:=by omega
   have hgt:¬ ((q:Int) < (M.n:Int)):=by omega
   have HQ:=Lib.hid hqn;clear hqn
   go_wp2_with fail
   go_ret
   exact ⟨true,rfl,⟨fun _ i hi=>HOK.out i (by rw [HQ.out];exact hi),fun _=>rfl⟩,HBW.out⟩
end Go.Proofs.YtjekapjbigfkbaaGreatDoor

namespace Go.Proofs.YtjekapjbigfkbaaGreatDoor
open Go Go.RowKit Go.Deep
set_option maxRecDepth 100000
set_option linter.unusedSimpArgs false
def cosR (M:EM) (na:Nat) (x:Nat→Int) (nb:Nat) (y:Nat→Int) (W:ByteArray) (E:Int):Prop:=(VE M∧isWord na x=true∧isWord nb y=true∧W=(costC ⟨M,na,x,nb,y⟩).1∧E=((costC ⟨M,na,x,nb,y⟩).2:Int))∨(¬ (VE M∧isWord na x=true∧isWord nb y=true)∧W=⟨#[]⟩∧E=1)
theorem CosE.val {M:EM} {na nb:Nat} {x y:Nat→Int} {w w':World} {rr:Ending} (h:CosE M na x nb y w rr w'):∃ W E,rr=.returned (.tuple #[.string W,.int .i64 E])∧cosR M na x nb y W E∧Below w.heap.size w w':=by
 obtain ⟨hb,⟨h1,h2,h3,h4⟩ | ⟨h1,h2⟩⟩:=h
 ·exact ⟨_,_,h4,.inl ⟨h1,h2,h3,rfl,rfl⟩,hb⟩
 ·exact ⟨_,_,h2,.inr ⟨h1,rfl,rfl⟩,hb⟩
theorem cosR.eq {M:EM} {na nb:Nat} {x y:Nat→Int} {W W':ByteArray} {E E':Int} (h:cosR M na x nb y W E) (h':cosR M na x nb y W' E'):W=W'∧E=E':=by
 rcases h with ⟨a1,a2,a3,a4,a5⟩ | ⟨a1,a2,a3⟩ <;> rcases h' with ⟨b1,b2,b3,b4,b5⟩ | ⟨b1,b2,b3⟩
 ·exact ⟨a4.trans b4.symm,a5.trans b5.symm⟩
 ·exact absurd ⟨a1,a2,a3⟩ b1
 ·exact absurd ⟨b1,b2,b3⟩ a1
 ·exact ⟨a2.trans b2.symm,a3.trans b3.symm⟩
theorem cosR.little {M:EM} {na nb:Nat} {x y:Nat→Int} {W:ByteArray} {E:Int} (h:cosR M na x nb y W E) (h2:E=2):¬ LitE M:=by
 intro hl
 rcases h with ⟨a1,_,_,_,a5⟩ | ⟨_,_,a3⟩
 ·rcases costC_spec (P:=⟨M,na,x,nb,y⟩) a1.m0 a1.ok with ⟨o,_,_,h⟩ | ⟨h,_⟩
  ·rw [h] at a5;subst a5;cases h2
  ·exact LitE.fit (P:=⟨M,na,x,nb,y⟩) a1 hl h
 ·subst a3;cases h2
end Go.Proofs.YtjekapjbigfkbaaGreatDoor

namespace Go.Proofs.YtjekapjbigfkbaaGreatDoor
open Go Go.RowKit Go.Deep
set_option maxRecDepth 100000
set_option linter.unusedSimpArgs false
set_option maxHeartbeats 8000000 in
theorem editsCost_any {M:EM} {v xv yv:Value} {na nb:Nat} {x y:Nat→Int} (w:World) (hM:Em none w v M) (hs:ESz M) (hx:Si none w xv na x) (hy:Si none w yv nb y) (ht:Tab w):Calls Tryz.prog 4 #[v,xv,yv] w (TrueB w):=by
 obtain ⟨sv,rfl,hS⟩:=hM
 have hna:=le_of_len hx
 have hnb:=le_of_len hy
 obtain ⟨a,cap,_,_,_,_,_,_,hsv,_⟩:=hS.open
 subst hsv
 obtain ⟨ax,cx,rfl⟩:=hx.shape
 obtain ⟨ay,cy,rfl⟩:=hy.shape
 obtain ⟨w1,hw1⟩:∃ w1,w1=w.alloc (.cells #[.slice a M.n cap,.int .i64 M.most] 24):=⟨_,rfl⟩
 obtain ⟨mb,hmb⟩:∃ mb,mb=w.heap.size:=⟨_,rfl⟩
 have hf1:Fr (fun _=>False) w w1:=by rw [hw1];exact Fr.alloc _ _
 have hbx:BoxE w1 mb M (.slice a M.n cap):=by rw [hw1,hmb];exact BoxE.new w M _
 have hb1:Below w.heap.size w w1:=hf1.below (Nat.le_refl _) (fun _ e=>e.elim)
 have hex:∀ W,Below w.heap.size w W→Calls Tryz.prog 12 #[] W (TrueB W):=fun W h=>example37_any W (ht.below h (Nat.le_refl _))
 have hed:∀ W,Below w.heap.size w W→EdS none W (.slice a M.n cap) M:=fun W h=>hS.kept (gb_below h none)
 have hco:=fun W (h:Below w.heap.size w W)=>ecost_any W (⟨_,rfl,hed W h⟩:Em none W (.agg #[.slice a M.n cap,.int .i64 M.most]) M) hs (ht.below h (Nat.le_refl _)) (hx.kept (gb_below h none)) (hy.kept (gb_below h none))
 have hrc:=fun W (h:Below w.heap.size w W)=>rccost_any W (⟨_,rfl,hed W h⟩:Em none W (.agg #[.slice a M.n cap,.int .i64 M.most]) M) hs (hx.kept (gb_below h none)) (hy.kept (gb_below h none))
 have hli:=fun W (h:Below w.heap.size w W)=>rlittle37_any W (hed W h) hs
 have hla:=fun W (h:Below w.heap.size w W)=>large37_any W (hed W h)
 have hfa:=fun W (h:Below w.heap.size w W)=>far37_any (n:=2) (b:=W.heap.size) (V:=fun i=>if i=0 then .slice ax na cx else .slice ay nb cy) (L:=fun i=>if i=0 then na else nb) (W.alloc (.cells #[.slice ax na cx,.slice ay nb cy] 27)) (by omega)
  (fun i hi=>by
   have h2:Below w.heap.size w (W.alloc (.cells #[.slice ax na cx,.slice ay nb cy] 27)):=h.alloc h.size _
   have hn:=heap_alloc_new W (.cells #[.slice ax na cx,.slice ay nb cy] 27)
   generalize W.alloc (.cells #[.slice ax na cx,.slice ay nb cy] 27)=WW at hn h2
   rcases (show i=0∨i=1 by omega) with rfl | rfl
   ·exact ⟨by simp [World.cell?,hn],x,hx.kept (gb_below h2 none)⟩
   ·exact ⟨by simp [World.cell?,hn],y,hy.kept (gb_below h2 none)⟩)
  (fun i _=>by show ((if i=0 then na else nb:Nat):Int)≤_;split <;> omega)
 have m0:=hbx.c0
 have m1:=hbx.c1
 have HEX:=Lib.hid hex;clear hex
 have HCO:=Lib.hid hco;clear hco
 have HRC:=Lib.hid hrc;clear hrc
 have HLI:=Lib.hid hli;clear hli
 have HLA:=Lib.hid hla;clear hla
 have HFA:=Lib.hid hfa;clear hfa
 have HB1:=Lib.hid hb1;clear hb1
 have HBX:=Lib.hid hbx;clear hbx
 clear hS hs ht hf1 hed hx hy
 go_enter Tryz.func4,Tryz.ntmps4
 go_wp2_with fail
 rw [← hw1,← hmb]
 clear hw1 hmb
 refine (HLA.out w1 HB1.out).mono ?_
 rintro rr w2 ⟨rfl,hb2⟩
 have HB2:=Lib.hid (HB1.out.trans (hb2.mono HB1.out.size))
 have HBX2:=Lib.hid (show BoxE w2 mb M (.slice a M.n cap) from (hb2.block mb HBX.out.lt).trans HBX.out)
 clear hb2 m0 m1 HB1 HBX HLA
 by_cases h6:(60:Int) < (M.n:Int)
 ·have h6':decide ((60:Int) < (M.n:Int))=true:=by simp;omega
  go_wp2_with fail
  refine (HEX.out w2 HB2.out).mono ?_
  rintro rr w3 ⟨rfl,hb3⟩
  have HB3:=Lib.hid (HB2.out.trans (hb3.mono HB2.out.size))
  clear hb3
  go_wp2_with fail
  go_ret
  exact ⟨rfl,HB3.out⟩
 have h6':decide ((60:Int) < (M.n:Int))=false:=by simp;omega
 have hb3:Below w.heap.size w (w2.alloc (.cells #[.slice ax na cx,.slice ay nb cy] 27)):=HB2.out.alloc HB2.out.size _
 have hbx3:BoxE (w2.alloc (.cells #[.slice ax na cx,.slice ay nb cy] 27)) mb M (.slice a M.n cap):=((Fr.alloc (C:=fun _=>False) w2 _).block mb HBX2.out.lt (fun e=>e)).trans HBX2.out
 have HB3:=Lib.hid hb3;clear hb3
 have HBX3:=Lib.hid hbx3;clear hbx3
 go_wp2_with fail
 refine (HFA.out w2 HB2.out).mono ?_
 rintro rr w4 ⟨fb,rfl,hfb,hb4⟩
 have HB4:=Lib.hid (HB3.out.trans (hb4.mono HB3.out.size))
 have HBX4:=Lib.hid (show BoxE w4 mb M (.slice a M.n cap) from (hb4.block mb HBX3.out.lt).trans HBX3.out)
 have m0:=HBX4.out.c0
 have m1:=HBX4.out.c1
 clear hb4 hfb HB3 HBX3 HB2 HBX2 HFA
 cases fb
 rotate_left
 ·go_wp2_with fail
  refine (HEX.out w4 HB4.out).mono ?_
  rintro rr w5 ⟨rfl,hb5⟩
  have HB5:=Lib.hid (HB4.out.trans (hb5.mono HB4.out.size))
  clear hb5
  go_wp2_with fail
  go_ret
  exact ⟨rfl,HB5.out⟩
 go_wp2_with fail
 refine (HCO.out w4 HB4.out).mono ?_
 rintro rr w5 hr
 obtain ⟨W1,E1,rfl,hr1,hb5⟩:=hr.val
 have HR1:=Lib.hid hr1
 have HB5:=Lib.hid (HB4.out.trans (hb5.mono HB4.out.size))
 have HBX5:=Lib.hid (show BoxE w5 mb M (.slice a M.n cap) from (hb5.block mb HBX4.out.lt).trans HBX4.out)
 clear hr hr1 hb5 HB4 HBX4 HCO m0 m1
 have m0:=HBX5.out.c0
 have m1:=HBX5.out.c1
 go_wp2_with fail
 refine (HRC.out w5 HB5.out).mono ?_
 rintro rr w6 hr
 obtain ⟨W2,E2,rfl,hr2,hb6⟩:=hr.val
 obtain ⟨rfl,rfl⟩:=HR1.out.eq hr2
 have HB6:=Lib.hid (HB5.out.trans (hb6.mono HB5.out.size))
 have HBX6:=Lib.hid (show BoxE w6 mb M (.slice a M.n cap) from (hb6.block mb HBX5.out.lt).trans HBX5.out)
 clear hr hr2 hb6 HB5 HBX5 HRC m0 m1
 have m0:=HBX6.out.c0
 have m1:=HBX6.out.c1
 by_cases hE:E1=2
 ·have HNL:=Lib.hid (HR1.out.little hE)
  subst hE
  clear HR1
  go_wp2_with fail
  refine (HLI.out w6 HB6.out).mono ?_
  rintro rr w7 ⟨lb,rfl,hlb,hb7⟩
  obtain rfl:lb=false:=by cases lb;rfl;exact absurd (hlb.1 rfl) HNL.out
  have HB7:=Lib.hid (HB6.out.trans (hb7.mono HB6.out.size))
  clear hb7 hlb m0 m1 HBX6
  go_wp2_with fail
  refine (HEX.out w7 HB7.out).mono ?_
  rintro rr w8 ⟨rfl,hb8⟩
  have HB8:=Lib.hid (HB7.out.trans (hb8.mono HB7.out.size))
  clear hb8
  go_wp2_with fail
  go_ret
  exact ⟨rfl,HB8.out⟩
 ·clear HR1
  have hE':(E1 == 2)=false:=by simp [hE]
  have hE2:decide (E1=2)=false:=by simp [hE]
  go_wp2_with fail
  refine (HEX.out w6 HB6.out).mono ?_
  rintro rr w8 ⟨rfl,hb8⟩
  have HB8:=Lib.hid (HB6.out.trans (hb8.mono HB6.out.size))
  clear hb8
  go_wp2_with fail
  go_ret
  exact ⟨rfl,HB8.out⟩
end Go.Proofs.YtjekapjbigfkbaaGreatDoor

namespace Go.Proofs.YtjekapjbigfkbaaGreatDoor
open Go Go.RowKit Go.Deep Go.ChangeShapes Go.WideShapes
set_option maxRecDepth 100000
end Go.Proofs.YtjekapjbigfkbaaGreatDoor
namespace Go.Proofs.YtjekapjbigfkbaaGreatDoor
open Go Go.RowKit Go.Deep Go.ChangeShapes Go.WideShapes Go.Joins
set_option maxRecDepth 100000
theorem weightsAll_mem {H:Type} {P:Program} {e:TypeId} {d:DataW H} {n:Nat}:∀ {ds:List (DataW H)},d ∈ ds→n ∈ d.weights P e→n ∈ DataW.weightsAll P e ds
 | d0::r,h,hn=>by
  simp only [DataW.weightsAll,List.mem_append]
  rcases List.mem_cons.1 h with rfl | h
  ·exact .inl hn
  ·exact .inr (weightsAll_mem h hn)
theorem slice_weight {H:Type} {t e:TypeId} {el sp:List (DataW H)} (hu:Tryz.prog.underlying t=some (.slice e)) (hB:1≤Tryz.prog.bytesOf e) {b:Nat} (hb:∀ m ∈ (DataW.slice el sp).weights Tryz.prog t,m≤b):el.length≤b:=by
 have h:=hb ((el.length+sp.length)*Tryz.prog.bytesOf e) (by simp [DataW.weights,hu])
 have:=Nat.le_mul_of_pos_right (el.length+sp.length) hB
 omega
theorem weights_part {H:Type} {t e:TypeId} {el sp:List (DataW H)} {d:DataW H} {m:Nat} (hu:Tryz.prog.underlying t=some (.slice e)) (hd:d ∈ el) (hm:m ∈ d.weights Tryz.prog e):m ∈ (DataW.slice el sp).weights Tryz.prog t:=by
 simp only [DataW.weights,hu,List.mem_cons,List.mem_append]
 exact .inr (.inl (weightsAll_mem hd hm))
end Go.Proofs.YtjekapjbigfkbaaGreatDoor

namespace Go.Proofs.YtjekapjbigfkbaaGreatDoor
open Go Go.RowKit Go.Deep Go.ChangeShapes Go.WideShapes
set_option maxRecDepth 100000
theorem arg_ints {H:Type} {enc:TypeId × Value→H} {W:World} {held:Bool} {fuel:Nat} {v:Value} {x:DataW H × List MemPlace} (h:DataW.trod enc Tryz.prog W 0 (fun _=>true) held fuel 27 [v]=some x) :
  ∃ (n:Nat) (wk:Nat→Int),Rd none W v n fun i=>.int .i64 (wk i):=by
 rcases open_slice1 Tryz.underlying27 (by kernel_rfl) h with ⟨hc,_⟩ | ⟨a,len,cap,m,n',V,D,Pl,hc,_,hl,hm,hmm,_,hx⟩
 ·simp only [List.cons.injEq,and_true] at hc
  exact ⟨0,fun _=>0,.inl ⟨rfl,none,0,hc,Nat.zero_le _⟩⟩
 ·simp only [List.cons.injEq,and_true] at hc
  simp only [if_true] at hmm
  subst hmm
  classical
  have hall:∀ i,∃ z:Int,i < m→V i=.int .i64 z:=fun i=>by
   by_cases hi:i < m
   ·obtain ⟨z,hz,_⟩:=DataW.trod_int Tryz.underlying3 (hx i hi).2
    exact ⟨z,fun _=>by simpa using hz⟩
   ·exact ⟨0,fun h=>absurd h hi⟩
  refine ⟨len,fun i=>Classical.choose (hall i),?_⟩
  by_cases h0:len=0
  ·subst h0;exact .inl ⟨rfl,some a,m,hc,hm⟩
  ·have c0:=(hx 0 (by omega)).1
   have hs:a.spot=none:=by simpa [Addr.add] using World.cell?_spot c0
   obtain ⟨b,off,sp⟩:=a
   simp only at hs;subst hs
   refine .inr ⟨b,off,m,hc,⟨?_,by simp⟩,hl,hm,fun j hj=>?_⟩
   ·have:=World.block_lt_of_cell? _ _ c0
    rw [Addr.add_lit] at this;exact this
   ·have:=(hx j (by omega)).1
    rw [Addr.add_lit,Classical.choose_spec (hall j) (by omega)] at this;exact this
end Go.Proofs.YtjekapjbigfkbaaGreatDoor

namespace Go.Proofs.YtjekapjbigfkbaaGreatDoor
open Go Go.RowKit Go.Deep Go.ChangeShapes Go.WideShapes Go.Joins
set_option maxRecDepth 100000
theorem arg_is {H:Type} {enc:TypeId × Value→H} {W:World} {held:Bool} {fuel:Nat} {v:Value} {x:DataW H × List MemPlace} (h:DataW.trod enc Tryz.prog W 0 (fun _=>true) held fuel 27 [v]=some x) :
  ∃ (n:Nat) (wk:Nat→Int),Si none W v n wk∧∀ b,(∀ m ∈ x.1.weights Tryz.prog 27,m≤b)→n≤b:=by
 rcases open_slice1 Tryz.underlying27 (by kernel_rfl) h with ⟨hc,_⟩ | ⟨a,len,cap,m,n',V,D,Pl,hc,_,hl,hm,hmm,hxx,hx⟩
 ·simp only [List.cons.injEq,and_true] at hc
  exact ⟨0,fun _=>0,.inl ⟨rfl,none,0,hc,Nat.zero_le _⟩,fun _ _=>Nat.zero_le _⟩
 ·simp only [List.cons.injEq,and_true] at hc
  simp only [if_true] at hmm
  subst hmm
  classical
  have hall:∀ i,∃ z:Int,i < m→V i=.int .i64 z:=fun i=>by
   by_cases hi:i < m
   ·obtain ⟨z,hz,_⟩:=DataW.trod_int Tryz.underlying3 (hx i hi).2
    exact ⟨z,fun _=>by simpa using hz⟩
   ·exact ⟨0,fun h=>absurd h hi⟩
  refine ⟨len,fun i=>Classical.choose (hall i),?_,fun b hb=>?_⟩
  ·by_cases h0:len=0
   ·subst h0;exact .inl ⟨rfl,some a,m,hc,hm⟩
   ·have c0:=(hx 0 (by omega)).1
    have hs:a.spot=none:=by simpa [Addr.add] using World.cell?_spot c0
    obtain ⟨b,off,sp⟩:=a
    simp only at hs;subst hs
    refine .inr ⟨b,off,m,hc,⟨?_,by simp⟩,hl,hm,fun j hj=>?_⟩
    ·have:=World.block_lt_of_cell? _ _ c0
     rw [Addr.add_lit] at this;exact this
    ·have:=(hx j (by omega)).1
     rw [Addr.add_lit,Classical.choose_spec (hall j) (by omega)] at this;exact this
  ·rw [hxx] at hb
   have:=slice_weight Tryz.underlying27 (by decide +kernel) hb
   simpa using this
theorem arg_eds {H:Type} {enc:TypeId × Value→H} {W:World} {held:Bool} {fuel:Nat} {v:Value} {x:DataW H × List MemPlace} (h:DataW.trod enc Tryz.prog W 0 (fun _=>true) held fuel 22 [v]=some x)
  (hw:∀ m ∈ x.1.weights Tryz.prog 22,m≤reachBytes):∃ (n:Nat) (e:Nat→ED),(∀ mo,EdS none W v ⟨n,e,mo⟩)∧n≤reachBytes∧∀ i,(e i).nf≤reachBytes∧(e i).nt≤reachBytes∧(e i).w.size≤maxLen:=by
 rcases open_slice Tryz.underlying22 h with ⟨hc,_⟩ | ⟨a,len,cap,m,n',D,Pl,hc,_,hl,hm,hmm,hxx,hx⟩
 ·simp only [List.cons.injEq,and_true] at hc
  exact ⟨0,fun _=>⟨0,fun _=>0,0,fun _=>0,⟨#[]⟩⟩,fun _=>.inl ⟨rfl,none,0,hc,Nat.zero_le _⟩,Nat.zero_le _,fun _=>⟨Nat.zero_le _,Nat.zero_le _,Nat.zero_le _⟩⟩
 ·simp only [List.cons.injEq,and_true] at hc
  simp only [if_true] at hmm
  subst hmm
  have c3:Tryz.prog.cellsOf 50=3:=by kernel_rfl
  have ci:Tryz.prog.cellsOf 27=1:=by kernel_rfl
  have cs:Tryz.prog.cellsOf 9=1:=by kernel_rfl
  classical
  have hlen:len≤reachBytes:=by
   rw [hxx] at hw
   have:=slice_weight Tryz.underlying22 (by decide +kernel) hw
   simpa using this
  have hall:∀ i,∃ t:ED × Value × Value,(t.1.nf≤reachBytes∧t.1.nt≤reachBytes∧t.1.w.size≤maxLen)∧(i < len→W.cell? (a.add (i*3))=some t.2.1∧W.cell? (a.add (i*3+1))=some t.2.2∧W.cell? (a.add (i*3+2))=some (.string t.1.w)∧Si none W t.2.1 t.1.nf t.1.f∧Si none W t.2.2 t.1.nt t.1.t):=fun i=>by
   by_cases hi:i < len
   ·obtain ⟨cs',h1,h2⟩:=hx i (by omega)
    rw [c3] at h1
    obtain ⟨_,hlen',hcell⟩:=World.cells?_some h1
    obtain ⟨y0,y1,y2,k,hy,_,g0,g1,g2⟩:=trod_struct3 Tryz.underlying50 h2
    match cs',hlen' with
    | [v0,v1,v2],_ =>
     simp only [ci,cs,List.drop_zero,List.drop_succ_cons,List.take_succ_cons,List.take_zero] at g0 g1 g2
     have hwi:∀ q,q ∈ (DataW.agg [y0.1,y1.1,y2.1]:DataW H).weights Tryz.prog 50→q≤reachBytes:=fun q hq=>hw q (by
      rw [hxx]
      refine weights_part Tryz.underlying22 (List.mem_map.2 ⟨i,List.mem_range.2 hi,rfl⟩) ?_
      have hD:D i=.agg [y0.1,y1.1,y2.1]:=congrArg Prod.fst hy
      rw [hD];exact hq)
     obtain ⟨nf,xf,s0,b0⟩:=arg_is g0
     obtain ⟨nt,xt,s1,b1⟩:=arg_is g1
     obtain ⟨z2,e2,_,hsz⟩:=DataW.trod_string Tryz.underlying9 g2
     obtain rfl:v2=.string z2:=by simpa using e2
     have k0:=hcell 0 (by omega)
     have k1:=hcell 1 (by omega)
     have k2:=hcell 2 (by omega)
     rw [add_add] at k0 k1 k2
     refine ⟨(⟨nf,xf,nt,xt,z2⟩,v0,v1),⟨b0 _ fun q hq=>hwi q ?_,b1 _ fun q hq=>hwi q ?_,hsz⟩,fun _=>⟨by simpa using k0,by simpa using k1,by simpa using k2,s0,s1⟩⟩
     ·simp only [DataW.weights,Tryz.underlying50,DataW.weightsEach,List.map_cons,List.mem_append,List.map_nil]
      exact .inl hq
     ·simp only [DataW.weights,Tryz.underlying50,DataW.weightsEach,List.map_cons,List.mem_append,List.map_nil]
      exact .inr (.inl hq)
   ·exact ⟨(⟨0,fun _=>0,0,fun _=>0,⟨#[]⟩⟩,.nilIface,.nilIface),⟨Nat.zero_le _,Nat.zero_le _,Nat.zero_le _⟩,fun h=>absurd h hi⟩
  obtain ⟨T,hT⟩:∃ T:Nat→ED × Value × Value,∀ i,((T i).1.nf≤reachBytes∧(T i).1.nt≤reachBytes∧(T i).1.w.size≤maxLen)∧(i < len→W.cell? (a.add (i*3))=some (T i).2.1∧W.cell? (a.add (i*3+1))=some (T i).2.2∧W.cell? (a.add (i*3+2))=some (.string (T i).1.w)∧Si none W (T i).2.1 (T i).1.nf (T i).1.f∧Si none W (T i).2.2 (T i).1.nt (T i).1.t) :=
   ⟨fun i=>Classical.choose (hall i),fun i=>Classical.choose_spec (hall i)⟩
  refine ⟨len,fun i=>(T i).1,fun mo=>?_,hlen,fun i=>(hT i).1⟩
  by_cases h0:len=0
  ·subst h0;exact .inl ⟨rfl,some a,m,hc,hm⟩
  ·have c0:=((hT 0).2 (by omega)).1
   have hs:a.spot=none:=by simpa [Addr.add] using World.cell?_spot c0
   obtain ⟨b,off,sp⟩:=a
   simp only at hs;subst hs
   refine .inr ⟨b,off,m,fun i=>(T i).2.1,fun i=>(T i).2.2,hc,⟨?_,by simp⟩,hl,hm,fun j hj=>?_⟩
   ·have:=World.block_lt_of_cell? _ _ c0
    rw [Addr.add_lit] at this;exact this
   ·obtain ⟨k0,k1,k2,k3,k4⟩:=(hT j).2 hj
    rw [Addr.add_lit] at k0 k1 k2
    exact ⟨k0,by rw [Nat.add_assoc];exact k1,by rw [Nat.add_assoc];exact k2,k3,k4⟩
theorem esz_of {n:Nat} {e:Nat→ED} {mo:Int} (hn:n≤reachBytes) (he:∀ i,(e i).nf≤reachBytes∧(e i).nt≤reachBytes∧(e i).w.size≤maxLen) (hm:-9223372036854775808≤mo∧mo≤9223372036854775807):ESz ⟨n,e,mo⟩:=by
 have hR:reachBytes≤140737488355328:=by decide
 refine ⟨by show ((n:Nat):Int)≤_;omega,fun i=>?_,fun i=>?_,fun i=>?_,hm.1,hm.2⟩
 ·have:=(he i).1;show (((e i).nf:Nat):Int)≤_;omega
 ·have:=(he i).2.1;show (((e i).nt:Nat):Int)≤_;omega
 ·have:=(he i).2.2;unfold maxLen at this;show (((e i).w.size:Nat):Int)≤_;omega
theorem arg_em {H:Type} {enc:TypeId × Value→H} {W:World} {r:Reach} {b0:Nat} {held:Bool} {v:Value} {d:DataW H} {p:List MemPlace} (hv:Value.okWide Tryz.prog W r b0 24 v) (h:DataW.Trod enc Tryz.prog W 0 (fun _=>true) held 24 v d p)
  (hw:∀ m ∈ d.weights Tryz.prog 24,m≤reachBytes):∃ M,Em none W v M∧ESz M:=by
 obtain ⟨v0,v1,y0,y1,n,rfl,rfl,rfl,t0,t1⟩:=open_agg2 Tryz.underlying24 (by kernel_rfl) (by kernel_rfl) hv h
 obtain ⟨z1,e1,_,w1⟩:=DataW.trod_int Tryz.underlying3 t1
 obtain rfl:v1=.int .i64 z1:=by simpa using e1
 have hwf:-9223372036854775808≤z1∧z1≤9223372036854775807:=by
  simp [Lit.wf,IntKind.min,IntKind.max,IntKind.signed,IntKind.bits] at w1
  omega
 obtain ⟨n,e,h1,h2,h3⟩:=arg_eds t0 fun m hm=>hw m (by
  simp only [DataW.weights,Tryz.underlying24,DataW.weightsEach,List.map_cons,List.mem_append,List.map_nil]
  exact .inl hm)
 exact ⟨⟨n,e,z1⟩,⟨_,rfl,h1 z1⟩,esz_of h2 h3 hwf⟩
end Go.Proofs.YtjekapjbigfkbaaGreatDoor
