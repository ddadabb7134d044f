/- Parts of a proof: EdSB. -/
import Derived.Test.YtjekapjbigfkbaaGreatDoorQ34
namespace Go.Proofs.YtjekapjbigfkbaaGreatDoor
open Go Go.RowKit Go.Deep
set_option maxRecDepth 100000
set_option linter.unusedSimpArgs false
noncomputable def sBody10:Code:=loopS (((Tryz.f29).body.bind (blkS 10)).getD .skip)
set_option maxRecDepth 1000000 in
set_option maxHeartbeats 16000000 in
theorem sloop10 {n mb rb bl ol cl:Nat} {al:Option Addr} {x:Nat→Int} {w wr:World} {M0:EM} {ws:ByteArray} {Q0:Exit→Act→World→Prop} {u1 u2 u4 u5 u6 u7 u8 u9 u10 u11 u12 u13 u14 u15 u16 u17 u19 u20 u22 u23 u24 u25 u26 u27 u28 u29 u30 u31 u32 u33 u34 u35 u36 u37 u38 u39 u40 u41 u42 u43 u44 u45 u46 u47 u48 u49 u50 u51 u52 u53 u54 u55 u56 u57 u58 u59 u60 u61 u62 u63 u64 u65 u66 u67 u68 u69 u70 u71 u72 u73 u74 u75 u76 u77 u78 u79 u80 u81 u82 u83 u84 u85 u86 u87 u88 u89 u90 u91 u92 u93 u94 u95 u96 u97 u98 u99 u100 u101 u102 u103 u104 u105 u106 u107 u108 u109 u110 u111 u112 u113 u114 u115 u116 u117 u118 u119 u120 u121 u122 u123 u124 u125 u126 u127 u128 u129 u130 u131 u132 u133 u134 u135 u136 u137 u138 u139 u140 u141 u142 u143 u144 u145 u146 u147 u148 u149 u150 u151 u152 u153 u154 u155 u156 u157 u158 u159 u160 u161 u162 u163 u164 u165 u166 u167 u168 u169 u170 u171 u172 u173 u174 u175 u176 u177 u178 u179 u180 u181 u182 u183 u184 u185 u186 u187 u188 u189 u190 u191 u192 u193 u194 u195 u196 u197 u198 u199 u200 u201 u202 u203 u204 u205 u206 u207 u208 u209 u210 u211 u212 u213 u214 u215 u216 u217 u218 u219 u220:Value}
  (HA:Hid (0 < n→al=some ⟨bl,ol,none⟩)) (HBL:Hid (0 < n→bl < w.heap.size∧some bl≠none)) (HCL:Hid (∀ i,i < n→w.cell? ⟨bl,ol+i,none⟩=some (.int .i64 (x i)))) (hn:n≤100) (hM:M0.n≤50000) (HND:Hid (∀ i,i < n→memB i x (x i)=false))
  (HSR:Hid (∃ sv F T,SrI w wr rb mb M0 sv F T))
  (HPAN:Hid (∀ (e:List PanicEntry) (a:Act) (d:Option Tmp) (v:Value) (w':World),Q0 (.panic e) (a.put d v) w'→Q0 (.panic e) a w'))
  (HEXIT:Hid (∀ (v21 v22 v135 v136 v137 v138 v139 v140 v141 v142 v143 v144 v145 v146 v147 v148 v149 v150 v151 v152 v153 v154 v155 v156 v157 v158 v159 v160 v161 v162 v163 v164 v165 v166 v167 v168 v169 v170:Value) (w':World),(∃ sv F T,SrI w w' rb mb (twoE repD ws x n n M0) sv F T)→Q0 (.exit 10) ⟨List.toArray (.slice al n cl::u1::u2::.string ws::u4::u5::u6::u7::u8::u9::u10::u11::u12::u13::u14::u15::u16::u17::.pointer (some ⟨mb,0,none⟩)::u19::u20::v21::v22::u23::u24::u25::u26::u27::u28::u29::u30::u31::u32::u33::u34::u35::u36::u37::u38::u39::u40::u41::u42::u43::u44::u45::u46::u47::u48::u49::u50::u51::u52::u53::u54::u55::u56::u57::u58::u59::u60::u61::u62::u63::u64::u65::u66::u67::u68::u69::u70::u71::u72::u73::u74::u75::u76::u77::u78::u79::u80::u81::u82::u83::u84::u85::u86::u87::u88::u89::u90::u91::u92::u93::u94::u95::u96::u97::u98::u99::u100::u101::u102::u103::u104::u105::u106::u107::u108::u109::u110::u111::u112::u113::u114::u115::u116::u117::u118::u119::u120::u121::u122::u123::u124::u125::u126::u127::u128::u129::u130::u131::u132::u133::u134::v135::v136::v137::v138::v139::v140::v141::v142::v143::v144::v145::v146::v147::v148::v149::v150::v151::v152::v153::v154::v155::v156::v157::v158::v159::v160::v161::v162::v163::v164::v165::v166::v167::v168::v169::v170::u171::u172::u173::u174::u175::u176::u177::u178::u179::u180::u181::u182::u183::u184::u185::u186::u187::u188::u189::u190::u191::u192::u193::u194::u195::u196::u197::u198::u199::u200::u201::u202::u203::u204::u205::u206::u207::u208::u209::u210::u211::u212::u213::u214::u215::u216::u217::u218::u219::u220::[]),[]⟩ w')) :
  Code.wp Tryz.prog (Code.loop sBody10) Q0 ⟨List.toArray (.slice al n cl::u1::u2::.string ws::u4::u5::u6::u7::u8::u9::u10::u11::u12::u13::u14::u15::u16::u17::.pointer (some ⟨mb,0,none⟩)::u19::u20::.int .i64 0::u22::u23::u24::u25::u26::u27::u28::u29::u30::u31::u32::u33::u34::u35::u36::u37::u38::u39::u40::u41::u42::u43::u44::u45::u46::u47::u48::u49::u50::u51::u52::u53::u54::u55::u56::u57::u58::u59::u60::u61::u62::u63::u64::u65::u66::u67::u68::u69::u70::u71::u72::u73::u74::u75::u76::u77::u78::u79::u80::u81::u82::u83::u84::u85::u86::u87::u88::u89::u90::u91::u92::u93::u94::u95::u96::u97::u98::u99::u100::u101::u102::u103::u104::u105::u106::u107::u108::u109::u110::u111::u112::u113::u114::u115::u116::u117::u118::u119::u120::u121::u122::u123::u124::u125::u126::u127::u128::u129::u130::u131::u132::u133::u134::u135::u136::u137::u138::u139::u140::u141::u142::u143::u144::u145::u146::u147::u148::u149::u150::u151::u152::u153::u154::u155::u156::u157::u158::u159::u160::u161::u162::u163::u164::u165::u166::u167::u168::u169::u170::u171::u172::u173::u174::u175::u176::u177::u178::u179::u180::u181::u182::u183::u184::u185::u186::u187::u188::u189::u190::u191::u192::u193::u194::u195::u196::u197::u198::u199::u200::u201::u202::u203::u204::u205::u206::u207::u208::u209::u210::u211::u212::u213::u214::u215::u216::u217::u218::u219::u220::[]),[]⟩ wr:=by
 obtain ⟨i0,hi0,hy0,hy1,hy2⟩:=info_parts2 info_edit
 have HI0:=Lib.hid hi0;clear hi0
 have HY0:=Lib.hid hy0;clear hy0
 have HY1:=Lib.hid hy1;clear hy1
 have HY2:=Lib.hid hy2;clear hy2
 have hnn:n*n≤10000:=Nat.mul_le_mul hn hn
 have HNN:=Lib.hid hnn;clear hnn
 conv=>arg 2;arg 1;whnf
 go_loopw [21] (fun v wr=>∃ i:Nat,i≤n∧v=.int .i64 (i:Int)∧∃ sv F T,SrI w wr rb mb (twoE repD ws x n i M0) sv F T) (fun v _=>n - (intOf v).toNat)
 case atStart=>exact ⟨0,Nat.zero_le _,rfl,HSR.out⟩
 case round =>
  obtain ⟨i,hi,rfl,sv,F,T,hsr⟩:=hrel
  clear HSR
  have HSR:=Lib.hid hsr;clear hsr
  cases hO:(ws.toList == [])
  ·by_cases hit:i < n
   ·have hiz:(i:Int) < (n:Int):=by omega
    have hiz0:(0:Int)≤(i:Int):=by omega
    have hws:ws≠⟨#[]⟩:=fun e=>by rw [e] at hO;simp at hO
    have HWS:=Lib.hid hws;clear hws
    have hmo:=twoE_most repD ws x n M0 i
    have hmul:i*n≤n*n:=Nat.mul_le_mul_right n (by omega)
    have hnx:twoE repD ws x n (i+1) M0=rowE repD ws x i n (twoE repD ws x n i M0):=rfl
    obtain ⟨Mo,hMo⟩:∃ Mo,Mo=twoE repD ws x n i M0:=⟨_,rfl⟩
    rw [← hMo] at HSR hmo hnx
    have HNXO:=Lib.hid hnx;clear hnx hMo
    have hmo2:Mo.n≤60000:=by have:=hmo.2;have:=HNN.out;omega
    clear hmo hmul
    obtain ⟨wo,rfl⟩:∃ wo:World,wo=wr:=⟨_,rfl⟩
    go_wp2_with fail
    go_loopw [22] (fun v wr=>∃ k:Nat,k≤n∧v=.int .i64 (k:Int)∧∃ sv F T,SrI w wr rb mb (rowE repD ws x i k Mo) sv F T) (fun v _=>n - (intOf v).toNat)
    case atStart=>exact ⟨0,Nat.zero_le _,rfl,_,_,_,HSR.out⟩
    case round =>
     obtain ⟨k,hk,rfl,sv,F,T,hsr⟩:=hrel
     clear HSR
     have HSR:=Lib.hid hsr;clear hsr
     by_cases hkt:k < n
     ·have hkz:(k:Int) < (n:Int):=by omega
      have hkz0:(0:Int)≤(k:Int):=by omega
      obtain rfl:=HA.out (by omega)
      have hbl:=(HBL.out (by omega)).1
      have hmo:=rowE_most repD ws x i Mo k
      by_cases hki:k=i
      ·have hkie:((k:Int) == (i:Int))=true:=by simp [hki]
       have hkid:decide ((k:Int)=(i:Int))=true:=by simp [hki]
       have hkii:(k:Int)=(i:Int):=by omega
       have hnx:rowE repD ws x i (k+1) Mo=rowE repD ws x i k Mo:=by
        show (if ws≠⟨#[]⟩∧x i≠x k then _ else _)=_
        rw [if_neg (fun e=>e.2 (by rw [hki]))]
       have HNX:=Lib.hid hnx;clear hnx
       go_wp2_with fail
       go_roundw
       case rel=>exact ⟨k+1,by omega,by go_num,_,_,_,by rw [HNX.out];exact HSR.out⟩
       case measure=>simp [intOf];omega
      ·have hkie:((k:Int) == (i:Int))=false:=by simp;omega
       have hkid:decide ((k:Int)=(i:Int))=false:=by simp;omega
       have hkii:¬ ((k:Int)=(i:Int)):=by omega
       have hnx:rowE repD ws x i (k+1) Mo=apE (rowE repD ws x i k Mo) { repD (x i) (x k) with w:=ws }:=by
        show (if ws≠⟨#[]⟩∧x i≠x k then _ else _)=_
        rw [if_pos ⟨HWS.out,nod_ne HND.out hit hkt hki⟩]
       obtain ⟨Mi,hMi⟩:∃ Mi,Mi=rowE repD ws x i k Mo:=⟨_,rfl⟩
       obtain ⟨xi,hxi⟩:∃ xi,xi=x i:=⟨_,rfl⟩
       obtain ⟨xk,hxk⟩:∃ xk,xk=x k:=⟨_,rfl⟩
       have hcl:∀ W,Fr (fun _=>False) wr W→W.cell? ⟨bl,ol+i,none⟩=some (.int .i64 xi)∧W.cell? ⟨bl,ol+k,none⟩=some (.int .i64 xk):=fun W hf=>⟨hf.cell ((HSR.out.be.cell (p:=⟨bl,ol+i,none⟩) hbl).trans (by rw [hxi];exact HCL.out i hit)) (fun e=>e),hf.cell ((HSR.out.be.cell (p:=⟨bl,ol+k,none⟩) hbl).trans (by rw [hxk];exact HCL.out k hkt)) (fun e=>e)⟩
       rw [← hMi] at HSR hmo hnx
       rw [← hxi,← hxk] at hnx
       have HNX:=Lib.hid hnx;clear hnx hMi hxi hxk
       obtain ⟨_,hmo3⟩:=hmo
       have hmn:Mi.n≤70000:=by omega
       clear hmo3
       obtain ⟨sa,sc,hsv,_,_⟩:=row_any HSR.out.own.top
       subst hsv
       obtain ⟨wd,hwd⟩:∃ wd,wd=wr.drew:=⟨_,rfl⟩
       have hfd:Fr (fun _=>False) wr wd:=by rw [hwd];exact fr_drew wr
       have HBE:=Lib.hid HSR.out.be
       have hks:∀ W,Fr (fun _=>False) wr W→(fun wk:World=>wk.cell? ⟨mb,0,none⟩=some (.slice sa Mi.n sc)∧wk.cell? ⟨bl,ol+i,none⟩=some (.int .i64 xi)∧wk.cell? ⟨bl,ol+k,none⟩=some (.int .i64 xk)) W:=fun W hf=>⟨cell_of (HSR.out.new hf).km 0 rfl,hcl W hf⟩
       have HKS:=Lib.hid hks;clear hks
       have hfar:∀ (W:World) (o:Obj) (we:World),Fr (fun _=>False) wr W→(W.alloc o).grownBy we (Value.slice sa Mi.n sc).ownBlock→(fun wk:World=>wk.cell? ⟨mb,0,none⟩=some (.slice sa Mi.n sc)∧wk.cell? ⟨bl,ol+i,none⟩=some (.int .i64 xi)∧wk.cell? ⟨bl,ol+k,none⟩=some (.int .i64 xk)) we∧we.frozen? ⟨mb,0,none⟩=false:=fun W o we hf hg=>by
        have h:=HSR.out.new hf
        obtain ⟨hfw,hkm,_⟩:=h.far hg
        have hbo:(Value.slice sa Mi.n sc).ownBlock≠some bl:=fun e=>by have:=(World.ownsRow.lt h.own.top bl e).1;omega
        exact ⟨⟨cell_of hkm 0 rfl,hfw.cell (hcl W hf).1 (fun e=>hbo e),hfw.cell (hcl W hf).2 (fun e=>hbo e)⟩,by unfold BxE at hkm;simp [World.frozen?,hkm]⟩
       have HFAR:=Lib.hid hfar;clear hfar
       have hadd:∀ (W:World) (o:Obj) (we:World) (go cp:Nat) (Fd Td:Value),Fr (fun _=>False) wr W→SiB W Fd ({ repD xi xk with w:=ws }).nf ({ repD xi xk with w:=ws }).f→SiB W Td ({ repD xi xk with w:=ws }).nt ({ repD xi xk with w:=ws }).t →
         we.ownsRow w.heap.size 50 3 (.slice (some ⟨go,0,none⟩) (Mi.n+1) cp) (Mi.n+1) (cat (ed3 Mi F T) Mi.n++[Fd,Td,.string ws])→(W.alloc o).grownBy we (Value.slice sa Mi.n sc).ownBlock →
         ∃ sv F T,SrI w (we.setCell ⟨mb,0,none⟩ (.slice (some ⟨go,0,none⟩) (Mi.n+1) cp)) rb mb (apE Mi { repD xi xk with w:=ws }) sv F T:=fun W o we go cp Fd Td hf hF hT h1 h2=>⟨_,_,_,(HSR.out.new hf).add (d:={ repD xi xk with w:=ws }) hF hT h1 h2⟩
       have HADD:=Lib.hid hadd;clear hadd
       have HROW:=Lib.hid (show ∀ (W:World) (o:Obj),Fr (fun _=>False) wr W→(W.alloc o).ownsRow w.heap.size 50 3 (.slice sa Mi.n sc) Mi.n (cat (ed3 Mi F T) Mi.n) from fun W o hf=>World.ownsRow.alloc (HSR.out.new hf).own.top _)
       have m0:=cell_of HSR.out.km 0 rfl
       obtain ⟨c0,c1⟩:=hcl wr (Fr.refl _ _)
       have HFD0:=Lib.hid hfd;clear hfd hcl
       go_wp2_with fail
       have hS0:=HKS.out wd HFD0.out
       refine region_heldK (fun wk:World=>wk.cell? ⟨mb,0,none⟩=some (.slice sa Mi.n sc)∧wk.cell? ⟨bl,ol+i,none⟩=some (.int .i64 xi)∧wk.cell? ⟨bl,ol+k,none⟩=some (.int .i64 xk)) 17 (by kernel_rfl) ?_
       rw [← hwd]
       clear hwd m0 c0 c1
       refine AnyK.tk (i:=0) (v:=?va00) rfl (by kernel_rfl) hS0 (Or.inl ⟨by kernel_rfl,?hya00⟩) ?resta00 (hQ:=fun _ _ _ h=>HPAN.out _ _ _ _ _ h)
       case hya00=>rintro wk ⟨s1,s2,s3⟩;go_simp;try with_reducible rfl
       refine AnyK.tk (i:=1) (v:=?va01) rfl (by kernel_rfl) hS0 (Or.inl ⟨by kernel_rfl,?hya01⟩) ?resta01 (hQ:=fun _ _ _ h=>HPAN.out _ _ _ _ _ h)
       case hya01=>rintro wk ⟨s1,s2,s3⟩;go_simp;try with_reducible rfl
       refine AnyK.tk (i:=2) (v:=?va02) rfl (by kernel_rfl) hS0 (Or.inl ⟨by kernel_rfl,?hya02⟩) ?resta02 (hQ:=fun _ _ _ h=>HPAN.out _ _ _ _ _ h)
       case hya02=>rintro wk ⟨s1,s2,s3⟩;go_simp;try with_reducible rfl
       refine AnyK.tk (i:=3) (v:=?va03) rfl (by kernel_rfl) hS0 (Or.inl ⟨by kernel_rfl,?hya03⟩) ?resta03 (hQ:=fun _ _ _ h=>HPAN.out _ _ _ _ _ h)
       case hya03=>rintro wk ⟨s1,s2,s3⟩;go_simp;try with_reducible rfl
       refine AnyK.tk (i:=4) (v:=?va04) rfl (by kernel_rfl) hS0 (Or.inl ⟨by kernel_rfl,?hya04⟩) ?resta04 (hQ:=fun _ _ _ h=>HPAN.out _ _ _ _ _ h)
       case hya04=>rintro wk ⟨s1,s2,s3⟩;go_simp;try with_reducible rfl
       refine AnyK.tk (i:=5) (v:=?va05) rfl (by kernel_rfl) hS0 (Or.inl ⟨by kernel_rfl,?hya05⟩) ?resta05 (hQ:=fun _ _ _ h=>HPAN.out _ _ _ _ _ h)
       case hya05=>rintro wk ⟨s1,s2,s3⟩;go_simp;try with_reducible rfl
       try simp only [Act.put,List.setIfInBounds_toArray,List.set_cons_zero,List.set_cons_succ,List.getElem_toArray,List.getElem_cons_succ,List.getElem_cons_zero]
       refine AnyK.tk (i:=7) (v:=?va17) rfl (by kernel_rfl) hS0 (Or.inl ⟨by kernel_rfl,?hya17⟩) ?resta17 (hQ:=fun _ _ _ h=>HPAN.out _ _ _ _ _ h)
       case hya17=>rintro wk ⟨s1,s2,s3⟩;go_simp;try with_reducible rfl
       refine AnyK.tk (i:=8) (v:=?va18) rfl (by kernel_rfl) hS0 (Or.inl ⟨by kernel_rfl,?hya18⟩) ?resta18 (hQ:=fun _ _ _ h=>HPAN.out _ _ _ _ _ h)
       case hya18=>rintro wk ⟨s1,s2,s3⟩;go_simp;try with_reducible rfl
       refine AnyK.tk (i:=9) (v:=?va19) rfl (by kernel_rfl) hS0 (Or.inl ⟨by kernel_rfl,?hya19⟩) ?resta19 (hQ:=fun _ _ _ h=>HPAN.out _ _ _ _ _ h)
       case hya19=>rintro wk ⟨s1,s2,s3⟩;go_simp;try with_reducible rfl
       refine AnyK.tk (i:=10) (v:=?va110) rfl (by kernel_rfl) hS0 (Or.inl ⟨by kernel_rfl,?hya110⟩) ?resta110 (hQ:=fun _ _ _ h=>HPAN.out _ _ _ _ _ h)
       case hya110=>rintro wk ⟨s1,s2,s3⟩;go_simp;try with_reducible rfl
       try simp only [Act.put,List.setIfInBounds_toArray,List.set_cons_zero,List.set_cons_succ,List.getElem_toArray,List.getElem_cons_succ,List.getElem_cons_zero]
       refine AnyK.tk (i:=12) (v:=?va212) rfl (by kernel_rfl) hS0 (Or.inl ⟨by kernel_rfl,?hya212⟩) ?resta212 (hQ:=fun _ _ _ h=>HPAN.out _ _ _ _ _ h)
       case hya212=>rintro wk ⟨s1,s2,s3⟩;go_simp;try with_reducible rfl
       try simp only [Act.put,List.setIfInBounds_toArray,List.set_cons_zero,List.set_cons_succ,List.getElem_toArray,List.getElem_cons_succ,List.getElem_cons_zero]
       refine AnyK.two (i:=6) (j:=11) (by kernel_rfl) (wpOp_go rfl rfl fun K hK=>?_) (wpOp_go rfl rfl fun K hK=>?_)
       ·go_simp
        obtain ⟨wa,hwa⟩:∃ wa,wa=wd.alloc (.cells #[.int .i64 xi] 3):=⟨_,rfl⟩
        have hfa:Fr (fun _=>False) wr wa:=by rw [hwa];exact HFD0.out.trans (Fr.alloc _ _)
        have hna0:wa.heap[wd.heap.size]?=some (.cells #[.int .i64 xi] 3 (0,0)):=by rw [hwa];exact heap_alloc_new wd _
        have hS1:=HKS.out wa hfa
        rw [← hwa]
        clear hwa hS0
        refine hK _ _ ⟨.inr hS1,?_⟩
        clear hK K
        try simp only [Act.put,List.setIfInBounds_toArray,List.set_cons_zero,List.set_cons_succ,List.getElem_toArray,List.getElem_cons_succ,List.getElem_cons_zero]
        refine AnyK.one (i:=11) rfl (by kernel_rfl) (by rfl) (fun K hK=>?_)
        go_simp
        obtain ⟨wb,hwb⟩:∃ wb,wb=wa.alloc (.cells #[.int .i64 xk] 3):=⟨_,rfl⟩
        have hfb:Fr (fun _=>False) wr wb:=by rw [hwb];exact hfa.trans (Fr.alloc _ _)
        have hna:wb.heap[wd.heap.size]?=some (.cells #[.int .i64 xi] 3 (0,0)):=by rw [hwb];exact (blk_alloc_lt _ _ _ (lt_of_block hna0)).trans hna0
        have hnb:wb.heap[wa.heap.size]?=some (.cells #[.int .i64 xk] 3 (0,0)):=by rw [hwb];exact heap_alloc_new wa _
        have hS2:=HKS.out wb hfb
        have HFD:=Lib.hid (show SiB wb (.slice (some ⟨wd.heap.size,0,none⟩) 1 1) ({ repD xi xk with w:=ws }).nf ({ repD xi xk with w:=ws }).f from sib_blk (c:=#[.int .i64 xi]) (f:=(0,0)) (x:=(fun _=>xi)) hna one_ml (lt1 rfl))
        have HTD:=Lib.hid (show SiB wb (.slice (some ⟨wa.heap.size,0,none⟩) 1 1) ({ repD xi xk with w:=ws }).nt ({ repD xi xk with w:=ws }).t from sib_blk (c:=#[.int .i64 xk]) (f:=(0,0)) (x:=(fun _=>xk)) hnb one_ml (lt1 rfl))
        rw [← hwb]
        clear hwb hna hnb hna0 hfa hS1
        have HFB:=Lib.hid hfb;clear hfb
        refine hK.out _ _ (.inr hS2) ?_
        clear hK K
        try simp only [Act.put,List.setIfInBounds_toArray,List.set_cons_zero,List.set_cons_succ,List.getElem_toArray,List.getElem_cons_succ,List.getElem_cons_zero]
        refine AnyK.tk (i:=13) (v:=?vcb013) rfl (by kernel_rfl) hS2 (Or.inl ⟨by kernel_rfl,?hycb013⟩) ?restcb013 (hQ:=fun _ _ _ h=>HPAN.out _ _ _ _ _ h)
        case hycb013=>rintro wk ⟨s1,s2,s3⟩;go_simp;try with_reducible rfl
        try simp only [Act.put,List.setIfInBounds_toArray,List.set_cons_zero,List.set_cons_succ,List.getElem_toArray,List.getElem_cons_succ,List.getElem_cons_zero]
        refine AnyK.one (i:=14) rfl (by kernel_rfl) (by rfl) (fun K hK=>?_)
        go_simp
        obtain ⟨o,ho⟩:∃ o,o=Obj.cells #[.slice (some ⟨wd.heap.size,0,none⟩) 1 1,.slice (some ⟨wa.heap.size,0,none⟩) 1 1,.string ws] 50:=⟨_,rfl⟩
        have hny:(wb.alloc o).heap[wb.heap.size]?=some (.cells #[.slice (some ⟨wd.heap.size,0,none⟩) 1 1,.slice (some ⟨wa.heap.size,0,none⟩) 1 1,.string ws] 50 (0,0)):=by rw [ho];exact heap_alloc_new wb _
        have hS3:=HKS.out (wb.alloc o) (HFB.out.trans (Fr.alloc _ _))
        have hrw:=HROW.out wb o HFB.out
        have hBy:w.heap.size≤(wb.alloc o).heap.size:=(HBE.out.trans ((HFB.out.trans (Fr.alloc (C:=fun _=>False) wb o)).below HBE.out.size (fun _ e=>e.elim))).size
        rw [← ho]
        clear ho
        obtain ⟨wy,hwy⟩:∃ wy,wy=wb.alloc o:=⟨_,rfl⟩
        rw [← hwy] at hny hS3 hrw hBy
        rw [← hwy]
        have HWY:=Lib.hid hwy;clear hwy
        have HNY:=Lib.hid hny;clear hny
        have HRW:=Lib.hid hrw;clear hrw
        refine hK.out _ _ (.inr hS3) ?_
        clear hK K
        try simp only [Act.put,List.setIfInBounds_toArray,List.set_cons_zero,List.set_cons_succ,List.getElem_toArray,List.getElem_cons_succ,List.getElem_cons_zero]
        refine AnyK.one (i:=15) rfl (by kernel_rfl) (by rfl) (fun K hK=>?_)
        refine wp_append_lies _ (.tmp 155) (.tmp 168) 22 rfl w.heap.size 50 i0 (.agg #[.slice none 0 0,.slice none 0 0,.string ⟨#[]⟩]) 3 64 Tryz.underlying22 HI0.out HY0.out HY1.out HY2.out rfl (by omega) (.slice sa Mi.n sc) Mi.n _ (by simp [Act.eval]) HRW.out ⟨wb.heap.size,0,none⟩ 1 1 [.slice (some ⟨wd.heap.size,0,none⟩) 1 1,.slice (some ⟨wa.heap.size,0,none⟩) 1 1,.string ws] (by simp [Act.eval]) rfl (news_st (cs:=#[.slice (some ⟨wd.heap.size,0,none⟩) 1 1,.slice (some ⟨wa.heap.size,0,none⟩) 1 1,.string ws]) HNY.out) three_one (by omega) (by unfold maxLen;omega) (by omega) hBy _ rfl ?_
        intro go cp we hown2 hgrow hat hlt
        rw [HWY.out] at hgrow
        obtain ⟨hS4,f0⟩:=HFAR.out wb o we HFB.out hgrow
        have HB2:=Lib.hid (HADD.out wb o we go cp _ _ HFB.out HFD.out HTD.out hown2 hgrow)
        clear hown2 hgrow hat hlt
        refine hK.out _ _ (.inr hS4) ?_
        clear hK K
        try simp only [Act.put,List.setIfInBounds_toArray,List.set_cons_zero,List.set_cons_succ,List.getElem_toArray,List.getElem_cons_succ,List.getElem_cons_zero]
        refine AnyK.tk (i:=16) (v:=?vdb016) rfl (by kernel_rfl) hS4 (Or.inl ⟨by kernel_rfl,?hydb016⟩) ?restdb016 (hQ:=fun _ _ _ h=>HPAN.out _ _ _ _ _ h)
        case hydb016=>rintro wk ⟨s1,s2,s3⟩;go_simp;try with_reducible rfl
        try simp only [Act.put,List.setIfInBounds_toArray,List.set_cons_zero,List.set_cons_succ,List.getElem_toArray,List.getElem_cons_succ,List.getElem_cons_zero]
        have n0:=hS4.1
        refine AnyK.one (i:=17) rfl (by kernel_rfl) (by rfl) (fun K hK=>?_)
        go_simp
        refine hK.out _ _ (.inl rfl) (AnyK.done (by kernel_rfl) ?_ _)
        clear hK K
        go_wp2_with fail
        go_roundw
        case rel=>exact ⟨k+1,by omega,by go_num,by rw [HNX.out];exact HB2.out⟩
        case measure=>simp [intOf];omega
       ·go_simp
        obtain ⟨wa,hwa⟩:∃ wa,wa=wd.alloc (.cells #[.int .i64 xk] 3):=⟨_,rfl⟩
        have hfa:Fr (fun _=>False) wr wa:=by rw [hwa];exact HFD0.out.trans (Fr.alloc _ _)
        have hna0:wa.heap[wd.heap.size]?=some (.cells #[.int .i64 xk] 3 (0,0)):=by rw [hwa];exact heap_alloc_new wd _
        have hS1:=HKS.out wa hfa
        rw [← hwa]
        clear hwa hS0
        refine hK _ _ ⟨.inr hS1,?_⟩
        clear hK K
        try simp only [Act.put,List.setIfInBounds_toArray,List.set_cons_zero,List.set_cons_succ,List.getElem_toArray,List.getElem_cons_succ,List.getElem_cons_zero]
        refine AnyK.one (i:=6) rfl (by kernel_rfl) (by rfl) (fun K hK=>?_)
        go_simp
        obtain ⟨wb,hwb⟩:∃ wb,wb=wa.alloc (.cells #[.int .i64 xi] 3):=⟨_,rfl⟩
        have hfb:Fr (fun _=>False) wr wb:=by rw [hwb];exact hfa.trans (Fr.alloc _ _)
        have hna:wb.heap[wd.heap.size]?=some (.cells #[.int .i64 xk] 3 (0,0)):=by rw [hwb];exact (blk_alloc_lt _ _ _ (lt_of_block hna0)).trans hna0
        have hnb:wb.heap[wa.heap.size]?=some (.cells #[.int .i64 xi] 3 (0,0)):=by rw [hwb];exact heap_alloc_new wa _
        have hS2:=HKS.out wb hfb
        have HFD:=Lib.hid (show SiB wb (.slice (some ⟨wa.heap.size,0,none⟩) 1 1) ({ repD xi xk with w:=ws }).nf ({ repD xi xk with w:=ws }).f from sib_blk (c:=#[.int .i64 xi]) (f:=(0,0)) (x:=(fun _=>xi)) hnb one_ml (lt1 rfl))
        have HTD:=Lib.hid (show SiB wb (.slice (some ⟨wd.heap.size,0,none⟩) 1 1) ({ repD xi xk with w:=ws }).nt ({ repD xi xk with w:=ws }).t from sib_blk (c:=#[.int .i64 xk]) (f:=(0,0)) (x:=(fun _=>xk)) hna one_ml (lt1 rfl))
        rw [← hwb]
        clear hwb hna hnb hna0 hfa hS1
        have HFB:=Lib.hid hfb;clear hfb
        refine hK.out _ _ (.inr hS2) ?_
        clear hK K
        try simp only [Act.put,List.setIfInBounds_toArray,List.set_cons_zero,List.set_cons_succ,List.getElem_toArray,List.getElem_cons_succ,List.getElem_cons_zero]
        refine AnyK.tk (i:=13) (v:=?vcb113) rfl (by kernel_rfl) hS2 (Or.inl ⟨by kernel_rfl,?hycb113⟩) ?restcb113 (hQ:=fun _ _ _ h=>HPAN.out _ _ _ _ _ h)
        case hycb113=>rintro wk ⟨s1,s2,s3⟩;go_simp;try with_reducible rfl
        try simp only [Act.put,List.setIfInBounds_toArray,List.set_cons_zero,List.set_cons_succ,List.getElem_toArray,List.getElem_cons_succ,List.getElem_cons_zero]
        refine AnyK.one (i:=14) rfl (by kernel_rfl) (by rfl) (fun K hK=>?_)
        go_simp
        obtain ⟨o,ho⟩:∃ o,o=Obj.cells #[.slice (some ⟨wa.heap.size,0,none⟩) 1 1,.slice (some ⟨wd.heap.size,0,none⟩) 1 1,.string ws] 50:=⟨_,rfl⟩
        have hny:(wb.alloc o).heap[wb.heap.size]?=some (.cells #[.slice (some ⟨wa.heap.size,0,none⟩) 1 1,.slice (some ⟨wd.heap.size,0,none⟩) 1 1,.string ws] 50 (0,0)):=by rw [ho];exact heap_alloc_new wb _
        have hS3:=HKS.out (wb.alloc o) (HFB.out.trans (Fr.alloc _ _))
        have hrw:=HROW.out wb o HFB.out
        have hBy:w.heap.size≤(wb.alloc o).heap.size:=(HBE.out.trans ((HFB.out.trans (Fr.alloc (C:=fun _=>False) wb o)).below HBE.out.size (fun _ e=>e.elim))).size
        rw [← ho]
        clear ho
        obtain ⟨wy,hwy⟩:∃ wy,wy=wb.alloc o:=⟨_,rfl⟩
        rw [← hwy] at hny hS3 hrw hBy
        rw [← hwy]
        have HWY:=Lib.hid hwy;clear hwy
        have HNY:=Lib.hid hny;clear hny
        have HRW:=Lib.hid hrw;clear hrw
        refine hK.out _ _ (.inr hS3) ?_
        clear hK K
        try simp only [Act.put,List.setIfInBounds_toArray,List.set_cons_zero,List.set_cons_succ,List.getElem_toArray,List.getElem_cons_succ,List.getElem_cons_zero]
        refine AnyK.one (i:=15) rfl (by kernel_rfl) (by rfl) (fun K hK=>?_)
        refine wp_append_lies _ (.tmp 155) (.tmp 168) 22 rfl w.heap.size 50 i0 (.agg #[.slice none 0 0,.slice none 0 0,.string ⟨#[]⟩]) 3 64 Tryz.underlying22 HI0.out HY0.out HY1.out HY2.out rfl (by omega) (.slice sa Mi.n sc) Mi.n _ (by simp [Act.eval]) HRW.out ⟨wb.heap.size,0,none⟩ 1 1 [.slice (some ⟨wa.heap.size,0,none⟩) 1 1,.slice (some ⟨wd.heap.size,0,none⟩) 1 1,.string ws] (by simp [Act.eval]) rfl (news_st (cs:=#[.slice (some ⟨wa.heap.size,0,none⟩) 1 1,.slice (some ⟨wd.heap.size,0,none⟩) 1 1,.string ws]) HNY.out) three_one (by omega) (by unfold maxLen;omega) (by omega) hBy _ rfl ?_
        intro go cp we hown2 hgrow hat hlt
        rw [HWY.out] at hgrow
        obtain ⟨hS4,f0⟩:=HFAR.out wb o we HFB.out hgrow
        have HB2:=Lib.hid (HADD.out wb o we go cp _ _ HFB.out HFD.out HTD.out hown2 hgrow)
        clear hown2 hgrow hat hlt
        refine hK.out _ _ (.inr hS4) ?_
        clear hK K
        try simp only [Act.put,List.setIfInBounds_toArray,List.set_cons_zero,List.set_cons_succ,List.getElem_toArray,List.getElem_cons_succ,List.getElem_cons_zero]
        refine AnyK.tk (i:=16) (v:=?vdb116) rfl (by kernel_rfl) hS4 (Or.inl ⟨by kernel_rfl,?hydb116⟩) ?restdb116 (hQ:=fun _ _ _ h=>HPAN.out _ _ _ _ _ h)
        case hydb116=>rintro wk ⟨s1,s2,s3⟩;go_simp;try with_reducible rfl
        try simp only [Act.put,List.setIfInBounds_toArray,List.set_cons_zero,List.set_cons_succ,List.getElem_toArray,List.getElem_cons_succ,List.getElem_cons_zero]
        have n0:=hS4.1
        refine AnyK.one (i:=17) rfl (by kernel_rfl) (by rfl) (fun K hK=>?_)
        go_simp
        refine hK.out _ _ (.inl rfl) (AnyK.done (by kernel_rfl) ?_ _)
        clear hK K
        go_wp2_with fail
        go_roundw
        case rel=>exact ⟨k+1,by omega,by go_num,by rw [HNX.out];exact HB2.out⟩
        case measure=>simp [intOf];omega
     ·have hkn:k=n:=by omega
      have hgt:¬ ((k:Int) < (n:Int)):=by omega
      have hsr:=HSR.out
      rw [hkn,← HNXO.out] at hsr
      have HS2:=Lib.hid (show ∃ sv F T,SrI w wr rb mb (twoE repD ws x n (i+1) M0) sv F T from ⟨_,_,_,hsr⟩);clear hsr hkn
      go_wp2_with fail
      go_roundw
      case rel=>exact ⟨i+1,by omega,by go_num,HS2.out⟩
      case measure=>simp [intOf];omega
   ·have hin:i=n:=by omega
    have hgt:¬ ((i:Int) < (n:Int)):=by omega
    have hsr:=HSR.out
    rw [hin] at hsr
    have HS2:=Lib.hid (show ∃ sv F T,SrI w wr rb mb (twoE repD ws x n n M0) sv F T from ⟨_,_,_,hsr⟩);clear hsr hin
    go_wp2_with fail
    exact HEXIT.out _ _ _ _ _ _ _ _ _ _ _ _ _ _ _ _ _ _ _ _ _ _ _ _ _ _ _ _ _ _ _ _ _ _ _ _ _ _ _ HS2.out
  ·have hsr:=HSR.out
   rw [twoE_nil repD (empty_eq hO) x n M0 i,← twoE_nil repD (empty_eq hO) x n M0 n] at hsr
   have HS2:=Lib.hid (show ∃ sv F T,SrI w wr rb mb (twoE repD ws x n n M0) sv F T from ⟨_,_,_,hsr⟩);clear hsr
   go_wp2_with fail
   exact HEXIT.out _ _ _ _ _ _ _ _ _ _ _ _ _ _ _ _ _ _ _ _ _ _ _ _ _ _ _ _ _ _ _ _ _ _ _ _ _ _ _ HS2.out
end Go.Proofs.YtjekapjbigfkbaaGreatDoor
