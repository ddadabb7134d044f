/- Parts of a proof: EdSA. -/
import Derived.Test.YtjekapjbigfkbaaGreatDoorQ33
namespace Go.Proofs.YtjekapjbigfkbaaGreatDoor
open Go Go.RowKit Go.Deep
set_option maxRecDepth 100000
set_option linter.unusedSimpArgs false
structure SrI (w0 w:World) (rb mb:Nat) (M:EM) (sv:Value) (F T:Nat→Value):Prop where
 kr:BxE w rb (.slice none 0 0) 0
 km:BxE w mb sv M.most
 own:OwE w w0.heap.size sv M F T
 be:Below w0.heap.size w0 w
 lr:w0.heap.size≤rb
 lm:w0.heap.size≤mb
 ne:rb≠mb
section
variable {w0 w w' we:World} {rb mb:Nat} {M:EM} {sv:Value} {F T:Nat→Value}
theorem SrI.new (h:SrI w0 w rb mb M sv F T) (hf:Fr (fun _=>False) w w'):SrI w0 w' rb mb M sv F T :=
 ⟨(hf.block rb (lt_of_block h.kr) (fun e=>e)).trans h.kr,(hf.block mb (lt_of_block h.km) (fun e=>e)).trans h.km,h.own.new hf,h.be.trans (hf.below h.be.size (fun _ e=>e.elim)),h.lr,h.lm,h.ne⟩
theorem SrI.far (h:SrI w0 w rb mb M sv F T) {o:Obj} (hg:(w.alloc o).grownBy we sv.ownBlock):Fr (fun c=>sv.ownBlock=some c) w we∧BxE we mb sv M.most∧BxE we rb (.slice none 0 0) 0:=by
 have hfa:Fr (fun _=>False) w (w.alloc o):=Fr.alloc _ _
 have hfw:Fr (fun c=>sv.ownBlock=some c) w we:=(hfa.mono (fun _ _ e=>e.elim)).trans (Fr.of_gb hg (fun _ e=>e))
 exact ⟨hfw,(hfw.block mb (lt_of_block h.km) (fun e=>own_blk h.own.top h.km (by decide) e)).trans h.km,(hfw.block rb (lt_of_block h.kr) (fun e=>own_blk h.own.top h.kr (by decide) e)).trans h.kr⟩
theorem SrI.add (h:SrI w0 w rb mb M sv F T) {o:Obj} {go cp:Nat} {d:ED} {Fd Td:Value} (hF:SiB w Fd d.nf d.f) (hT:SiB w Td d.nt d.t)
  (hown:we.ownsRow w0.heap.size 50 3 (.slice (some ⟨go,0,none⟩) (M.n+1) cp) (M.n+1) (cat (ed3 M F T) M.n++[Fd,Td,.string d.w])) (hgrow:(w.alloc o).grownBy we sv.ownBlock) :
  SrI w0 (we.setCell ⟨mb,0,none⟩ (.slice (some ⟨go,0,none⟩) (M.n+1) cp)) rb mb (apE M d) (.slice (some ⟨go,0,none⟩) (M.n+1) cp) (fun i=>if i=M.n then Fd else F i) (fun i=>if i=M.n then Td else T i):=by
 obtain ⟨hfw,hkm,hkr⟩:=h.far hgrow
 have hsn:(Value.slice (some ⟨go,0,none⟩) (M.n+1) cp).ownBlock≠some mb:=own_blk hown hkm (by decide)
 have hfs:Fr (fun q=>q=mb) we (we.setCell ⟨mb,0,none⟩ (.slice (some ⟨go,0,none⟩) (M.n+1) cp)):=(Fr.refl (fun q=>q=mb) we).set (p:=⟨mb,0,none⟩) (.inl rfl) _
 have hfall:Fr (fun q=>sv.ownBlock=some q∨q=mb) w (we.setCell ⟨mb,0,none⟩ (.slice (some ⟨go,0,none⟩) (M.n+1) cp)):=(hfw.mono (fun _ _ e=>.inl e)).trans (hfs.mono (fun _ _ e=>.inr e))
 have hno:∀ b c f,w.heap[b]?=some (.cells c 3 f)→¬ (sv.ownBlock=some b∨b=mb):=fun b c f hb e=>by
  rcases e with e | e
  ·exact own_blk h.own.top hb (by decide) e
  ·subst e;have:=h.km;unfold BxE at this;rw [hb] at this;simp at this
 refine ⟨(hfs.block rb (lt_of_block hkr) (fun e=>h.ne e)).trans hkr,?_,⟨?_,fun i hi=>?_,fun i hi=>?_⟩,?_,h.lr,h.lm,h.ne⟩
 ·unfold BxE;unfold BxE at hkm;simp [World.setCell,Array.getElem?_modify,hkm];rfl
 ·have h4:=row_kept hown (z:=some mb) (Fr.gb (hfs.mono (fun q _ e=>by rw [e]))) (fun b hb e=>hsn (by rw [hb,e]))
  have h5:cat (ed3 (apE M d) (fun i=>if i=M.n then Fd else F i) (fun i=>if i=M.n then Td else T i)) (M.n+1)=cat (ed3 M F T) M.n++[Fd,Td,.string d.w]:=by
   rw [cat_succ]
   congr 1
   ·refine cat_congr fun i hi=>?_
    unfold ed3 apE;simp [show i≠M.n by omega]
   ·unfold ed3 apE;simp
  show World.ownsRow _ _ _ _ _ (M.n+1) (cat _ (M.n+1))
  rw [h5];exact h4
 ·by_cases e:i=M.n
  ·unfold apE;simp only [if_pos e];exact hF.kept hfall hno
  ·have hi':i < M.n:=by have:i < M.n+1:=hi;omega
   unfold apE;simp only [if_neg e];exact (h.own.f i hi').kept hfall hno
 ·by_cases e:i=M.n
  ·unfold apE;simp only [if_pos e];exact hT.kept hfall hno
  ·have hi':i < M.n:=by have:i < M.n+1:=hi;omega
   unfold apE;simp only [if_neg e];exact (h.own.t i hi').kept hfall hno
 ·refine h.be.trans (hfall.below h.be.size (fun q e=>?_))
  rcases e with e | e
  ·exact (World.ownsRow.lt h.own.top q e).1
  ·rw [e];exact h.lm
end
theorem oneE_nil (mk:Int→ED) {ws:ByteArray} (h:ws=⟨#[]⟩) (x:Nat→Int) (M:EM):∀ i,oneE mk ws x i M=M
 | 0=>rfl
 | i+1=>by unfold oneE;rw [if_pos h];exact oneE_nil mk h x M i
theorem rowE_nil (mk:Int→Int→ED) {ws:ByteArray} (h:ws=⟨#[]⟩) (x:Nat→Int) (i:Nat) (M:EM):∀ j,rowE mk ws x i j M=M
 | 0=>rfl
 | j+1=>by unfold rowE;rw [if_neg (fun e=>e.1 h)];exact rowE_nil mk h x i M j
theorem twoE_nil (mk:Int→Int→ED) {ws:ByteArray} (h:ws=⟨#[]⟩) (x:Nat→Int) (n:Nat) (M:EM):∀ i,twoE mk ws x n i M=M
 | 0=>rfl
 | i+1=>by unfold twoE;rw [rowE_nil mk h x i _ n];exact twoE_nil mk h x n M i
theorem nod_ne {n:Nat} {x:Nat→Int} (h:∀ i,i < n→memB i x (x i)=false) {i k:Nat} (hi:i < n) (hk:k < n) (hne:k≠i):x i≠x k:=fun e=>by
 rcases Nat.lt_or_ge i k with hl | hl
 ·have:=h k hk
  rw [show memB k x (x k)=true from memB_iff.2 ⟨i,hl,e⟩] at this;cases this
 ·have:=h i hi
  rw [show memB i x (x i)=true from memB_iff.2 ⟨k,by omega,e.symm⟩] at this;cases this
theorem fr_drew (w:World):Fr (fun _=>False) w w.drew:=Fr.of_below ((Below.refl w.heap.size w).drew)
def blkS (n:Nat):Code→Option Code
 | .block m c=>if m == n then some c else blkS n c
 | .seq a b=>(blkS n a).or (blkS n b)
 | .cond _ a b=>(blkS n a).or (blkS n b)
 | .loop c=>blkS n c
 | .scope c=>blkS n c
 | _=>none
def loopS:Code→Code
 | .loop c=>c
 | _=>.skip
noncomputable def sBody6:Code:=loopS (((Tryz.f29).body.bind (blkS 6)).getD .skip)
set_option maxRecDepth 1000000 in
set_option maxHeartbeats 16000000 in
theorem sloop6 {n mb rb bl ol cl:Nat} {al:Option Addr} {x:Nat→Int} {w wr:World} {M0:EM} {ws:ByteArray} {Q0:Exit→Act→World→Prop} {u2 u3 u4 u5 u6 u7 u8 u9 u10 u11 u12 u13 u14 u15 u16 u17 u20 u21 u22 u23 u24 u25 u26 u27 u28 u29 u30 u31 u32 u33 u34 u35 u36 u37 u38 u39 u40 u41 u42 u43 u44 u45 u46 u47 u48 u49 u50 u51 u52 u53 u54 u55 u56 u57 u58 u59 u60 u61 u62 u63 u64 u65 u66 u67 u68 u69 u70 u71 u72 u73 u74 u75 u76 u77 u78 u79 u80 u81 u82 u83 u84 u85 u86 u87 u88 u89 u90 u91 u92 u93 u94 u95 u96 u97 u98 u99 u100 u101 u102 u103 u104 u105 u106 u107 u108 u109 u110 u111 u112 u113 u114 u115 u116 u117 u118 u119 u120 u121 u122 u123 u124 u125 u126 u127 u128 u129 u130 u131 u132 u133 u134 u135 u136 u137 u138 u139 u140 u141 u142 u143 u144 u145 u146 u147 u148 u149 u150 u151 u152 u153 u154 u155 u156 u157 u158 u159 u160 u161 u162 u163 u164 u165 u166 u167 u168 u169 u170 u171 u172 u173 u174 u175 u176 u177 u178 u179 u180 u181 u182 u183 u184 u185 u186 u187 u188 u189 u190 u191 u192 u193 u194 u195 u196 u197 u198 u199 u200 u201 u202 u203 u204 u205 u206 u207 u208 u209 u210 u211 u212 u213 u214 u215 u216 u217 u218 u219 u220:Value}
  (HA:Hid (0 < n→al=some ⟨bl,ol,none⟩)) (HBL:Hid (0 < n→bl < w.heap.size∧some bl≠none)) (HCL:Hid (∀ i,i < n→w.cell? ⟨bl,ol+i,none⟩=some (.int .i64 (x i)))) (hn:n≤100) (hM:M0.n≤50000)
  (HSR:Hid (∃ sv F T,SrI w wr rb mb M0 sv F T))
  (HPAN:Hid (∀ (e:List PanicEntry) (a:Act) (d:Option Tmp) (v:Value) (w':World),Q0 (.panic e) (a.put d v) w'→Q0 (.panic e) a w'))
  (HEXIT:Hid (∀ (v19 v91 v92 v93 v94 v95 v96 v97 v98 v99 v100 v101 v102 v103 v104 v105 v106 v107 v108 v109 v110 v111 v112:Value) (w':World),(∃ sv F T,SrI w w' rb mb (oneE insD ws x n M0) sv F T)→Q0 (.exit 6) ⟨List.toArray (.slice al n cl::.string ws::u2::u3::u4::u5::u6::u7::u8::u9::u10::u11::u12::u13::u14::u15::u16::u17::.pointer (some ⟨mb,0,none⟩)::v19::u20::u21::u22::u23::u24::u25::u26::u27::u28::u29::u30::u31::u32::u33::u34::u35::u36::u37::u38::u39::u40::u41::u42::u43::u44::u45::u46::u47::u48::u49::u50::u51::u52::u53::u54::u55::u56::u57::u58::u59::u60::u61::u62::u63::u64::u65::u66::u67::u68::u69::u70::u71::u72::u73::u74::u75::u76::u77::u78::u79::u80::u81::u82::u83::u84::u85::u86::u87::u88::u89::u90::v91::v92::v93::v94::v95::v96::v97::v98::v99::v100::v101::v102::v103::v104::v105::v106::v107::v108::v109::v110::v111::v112::u113::u114::u115::u116::u117::u118::u119::u120::u121::u122::u123::u124::u125::u126::u127::u128::u129::u130::u131::u132::u133::u134::u135::u136::u137::u138::u139::u140::u141::u142::u143::u144::u145::u146::u147::u148::u149::u150::u151::u152::u153::u154::u155::u156::u157::u158::u159::u160::u161::u162::u163::u164::u165::u166::u167::u168::u169::u170::u171::u172::u173::u174::u175::u176::u177::u178::u179::u180::u181::u182::u183::u184::u185::u186::u187::u188::u189::u190::u191::u192::u193::u194::u195::u196::u197::u198::u199::u200::u201::u202::u203::u204::u205::u206::u207::u208::u209::u210::u211::u212::u213::u214::u215::u216::u217::u218::u219::u220::[]),[]⟩ w')) :
  Code.wp Tryz.prog (Code.loop sBody6) Q0 ⟨List.toArray (.slice al n cl::.string ws::u2::u3::u4::u5::u6::u7::u8::u9::u10::u11::u12::u13::u14::u15::u16::u17::.pointer (some ⟨mb,0,none⟩)::.int .i64 0::u20::u21::u22::u23::u24::u25::u26::u27::u28::u29::u30::u31::u32::u33::u34::u35::u36::u37::u38::u39::u40::u41::u42::u43::u44::u45::u46::u47::u48::u49::u50::u51::u52::u53::u54::u55::u56::u57::u58::u59::u60::u61::u62::u63::u64::u65::u66::u67::u68::u69::u70::u71::u72::u73::u74::u75::u76::u77::u78::u79::u80::u81::u82::u83::u84::u85::u86::u87::u88::u89::u90::u91::u92::u93::u94::u95::u96::u97::u98::u99::u100::u101::u102::u103::u104::u105::u106::u107::u108::u109::u110::u111::u112::u113::u114::u115::u116::u117::u118::u119::u120::u121::u122::u123::u124::u125::u126::u127::u128::u129::u130::u131::u132::u133::u134::u135::u136::u137::u138::u139::u140::u141::u142::u143::u144::u145::u146::u147::u148::u149::u150::u151::u152::u153::u154::u155::u156::u157::u158::u159::u160::u161::u162::u163::u164::u165::u166::u167::u168::u169::u170::u171::u172::u173::u174::u175::u176::u177::u178::u179::u180::u181::u182::u183::u184::u185::u186::u187::u188::u189::u190::u191::u192::u193::u194::u195::u196::u197::u198::u199::u200::u201::u202::u203::u204::u205::u206::u207::u208::u209::u210::u211::u212::u213::u214::u215::u216::u217::u218::u219::u220::[]),[]⟩ wr:=by
 obtain ⟨i0,hi0,hy0,hy1,hy2⟩:=info_parts2 info_edit
 have HI0:=Lib.hid hi0;clear hi0
 have HY0:=Lib.hid hy0;clear hy0
 have HY1:=Lib.hid hy1;clear hy1
 have HY2:=Lib.hid hy2;clear hy2
 conv=>arg 2;arg 1;whnf
 go_loopw [19] (fun v wr=>∃ i:Nat,i≤n∧v=.int .i64 (i:Int)∧∃ sv F T,SrI w wr rb mb (oneE insD ws x i M0) sv F T) (fun v _=>n - (intOf v).toNat)
 case atStart=>exact ⟨0,Nat.zero_le _,rfl,HSR.out⟩
 case round =>
  obtain ⟨i,hi,rfl,sv,F,T,hsr⟩:=hrel
  clear HSR
  have HSR:=Lib.hid hsr;clear hsr
  cases hO:(ws.toList == [])
  ·by_cases hit:i < n
   ·have hiz:(i:Int) < (n:Int):=by omega
    have hiz0:(0:Int)≤(i:Int):=by omega
    obtain rfl:=HA.out (by omega)
    have hbl:=(HBL.out (by omega)).1
    have hmo:=oneE_most insD ws x M0 i
    have hws:ws≠⟨#[]⟩:=fun e=>by rw [e] at hO;simp at hO
    have hnx:oneE insD ws x (i+1) M0=apE (oneE insD ws x i M0) { insD (x i) with w:=ws }:=by
     show (if ws=⟨#[]⟩ then _ else _)=_
     rw [if_neg hws]
    obtain ⟨Mi,hMi⟩:∃ Mi,Mi=oneE insD ws x i M0:=⟨_,rfl⟩
    obtain ⟨xi,hxi⟩:∃ xi,xi=x i:=⟨_,rfl⟩
    have hcl:∀ W,Fr (fun _=>False) wr W→W.cell? ⟨bl,ol+i,none⟩=some (.int .i64 xi):=fun W hf=>hf.cell ((HSR.out.be.cell (p:=⟨bl,ol+i,none⟩) hbl).trans (by rw [hxi];exact HCL.out i hit)) (fun e=>e)
    rw [← hMi] at HSR hmo hnx
    rw [← hxi] at hnx
    have HNX:=Lib.hid hnx;clear hnx hMi hxi
    obtain ⟨_,hmo2⟩:=hmo
    have hmn:Mi.n≤60000:=by omega
    clear hmo2 hws
    obtain ⟨sa,sc,hsv,_,_⟩:=row_any HSR.out.own.top
    subst hsv
    obtain ⟨wd,hwd⟩:∃ wd,wd=wr.drew:=⟨_,rfl⟩
    have hfd:Fr (fun _=>False) wr wd:=by rw [hwd];exact fr_drew wr
    have HBE:=Lib.hid HSR.out.be
    have hks:∀ W,Fr (fun _=>False) wr W→(fun wk:World=>wk.cell? ⟨mb,0,none⟩=some (.slice sa Mi.n sc)∧wk.cell? ⟨bl,ol+i,none⟩=some (.int .i64 xi)) W:=fun W hf=>⟨cell_of (HSR.out.new hf).km 0 rfl,hcl W hf⟩
    have HKS:=Lib.hid hks;clear hks
    have hfar:∀ (W:World) (o:Obj) (we:World),Fr (fun _=>False) wr W→(W.alloc o).grownBy we (Value.slice sa Mi.n sc).ownBlock→(fun wk:World=>wk.cell? ⟨mb,0,none⟩=some (.slice sa Mi.n sc)∧wk.cell? ⟨bl,ol+i,none⟩=some (.int .i64 xi)) we∧we.frozen? ⟨mb,0,none⟩=false:=fun W o we hf hg=>by
     have h:=HSR.out.new hf
     obtain ⟨hfw,hkm,_⟩:=h.far hg
     have hbo:(Value.slice sa Mi.n sc).ownBlock≠some bl:=fun e=>by have:=(World.ownsRow.lt h.own.top bl e).1;omega
     exact ⟨⟨cell_of hkm 0 rfl,hfw.cell (hcl W hf) (fun e=>hbo e)⟩,by unfold BxE at hkm;simp [World.frozen?,hkm]⟩
    have HFAR:=Lib.hid hfar;clear hfar
    have hadd:∀ (W:World) (o:Obj) (we:World) (go cp:Nat) (Fd Td:Value),Fr (fun _=>False) wr W→SiB W Fd ({ insD xi with w:=ws }).nf ({ insD xi with w:=ws }).f→SiB W Td ({ insD xi with w:=ws }).nt ({ insD xi with w:=ws }).t →
      we.ownsRow w.heap.size 50 3 (.slice (some ⟨go,0,none⟩) (Mi.n+1) cp) (Mi.n+1) (cat (ed3 Mi F T) Mi.n++[Fd,Td,.string ws])→(W.alloc o).grownBy we (Value.slice sa Mi.n sc).ownBlock →
      ∃ sv F T,SrI w (we.setCell ⟨mb,0,none⟩ (.slice (some ⟨go,0,none⟩) (Mi.n+1) cp)) rb mb (apE Mi { insD xi with w:=ws }) sv F T:=fun W o we go cp Fd Td hf hF hT h1 h2=>⟨_,_,_,(HSR.out.new hf).add (d:={ insD xi with w:=ws }) hF hT h1 h2⟩
    have HADD:=Lib.hid hadd;clear hadd
    have HROW:=Lib.hid (show ∀ (W:World) (o:Obj),Fr (fun _=>False) wr W→(W.alloc o).ownsRow w.heap.size 50 3 (.slice sa Mi.n sc) Mi.n (cat (ed3 Mi F T) Mi.n) from fun W o hf=>World.ownsRow.alloc (HSR.out.new hf).own.top _)
    have m0:=cell_of HSR.out.km 0 rfl
    have c0:=hcl wr (Fr.refl _ _)
    have HFD0:=Lib.hid hfd;clear hfd hcl
    go_wp2_with fail
    have hS0:=HKS.out wd HFD0.out
    refine region_heldK (fun wk:World=>wk.cell? ⟨mb,0,none⟩=some (.slice sa Mi.n sc)∧wk.cell? ⟨bl,ol+i,none⟩=some (.int .i64 xi)) 12 (by kernel_rfl) ?_
    rw [← hwd]
    clear hwd m0 c0
    refine AnyK.tk (i:=0) (v:=?va0) rfl (by kernel_rfl) hS0 (Or.inl ⟨by kernel_rfl,?hya0⟩) ?resta0 (hQ:=fun _ _ _ h=>HPAN.out _ _ _ _ _ h)
    case hya0=>rintro wk ⟨s1,s2⟩;go_simp;try with_reducible rfl
    refine AnyK.tk (i:=1) (v:=?va1) rfl (by kernel_rfl) hS0 (Or.inl ⟨by kernel_rfl,?hya1⟩) ?resta1 (hQ:=fun _ _ _ h=>HPAN.out _ _ _ _ _ h)
    case hya1=>rintro wk ⟨s1,s2⟩;go_simp;try with_reducible rfl
    refine AnyK.tk (i:=2) (v:=?va2) rfl (by kernel_rfl) hS0 (Or.inl ⟨by kernel_rfl,?hya2⟩) ?resta2 (hQ:=fun _ _ _ h=>HPAN.out _ _ _ _ _ h)
    case hya2=>rintro wk ⟨s1,s2⟩;go_simp;try with_reducible rfl
    refine AnyK.tk (i:=3) (v:=?va3) rfl (by kernel_rfl) hS0 (Or.inl ⟨by kernel_rfl,?hya3⟩) ?resta3 (hQ:=fun _ _ _ h=>HPAN.out _ _ _ _ _ h)
    case hya3=>rintro wk ⟨s1,s2⟩;go_simp;try with_reducible rfl
    refine AnyK.tk (i:=4) (v:=?va4) rfl (by kernel_rfl) hS0 (Or.inl ⟨by kernel_rfl,?hya4⟩) ?resta4 (hQ:=fun _ _ _ h=>HPAN.out _ _ _ _ _ h)
    case hya4=>rintro wk ⟨s1,s2⟩;go_simp;try with_reducible rfl
    refine AnyK.tk (i:=5) (v:=?va5) rfl (by kernel_rfl) hS0 (Or.inl ⟨by kernel_rfl,?hya5⟩) ?resta5 (hQ:=fun _ _ _ h=>HPAN.out _ _ _ _ _ h)
    case hya5=>rintro wk ⟨s1,s2⟩;go_simp;try with_reducible rfl
    try simp only [Act.put,List.setIfInBounds_toArray,List.set_cons_zero,List.set_cons_succ,List.getElem_toArray,List.getElem_cons_succ,List.getElem_cons_zero]
    refine AnyK.tk (i:=7) (v:=?vb7) rfl (by kernel_rfl) hS0 (Or.inl ⟨by kernel_rfl,?hyb7⟩) ?restb7 (hQ:=fun _ _ _ h=>HPAN.out _ _ _ _ _ h)
    case hyb7=>rintro wk ⟨s1,s2⟩;go_simp;try with_reducible rfl
    try simp only [Act.put,List.setIfInBounds_toArray,List.set_cons_zero,List.set_cons_succ,List.getElem_toArray,List.getElem_cons_succ,List.getElem_cons_zero]
    refine AnyK.one (i:=6) rfl (by kernel_rfl) (by rfl) (fun K hK=>?_)
    go_simp
    obtain ⟨wb,hwb⟩:∃ wb,wb=wd.alloc (.cells #[.int .i64 xi] 3):=⟨_,rfl⟩
    have hnb:wb.heap[wd.heap.size]?=some (.cells #[.int .i64 xi] 3 (0,0)):=by rw [hwb];exact heap_alloc_new wd _
    have hfb:Fr (fun _=>False) wr wb:=by rw [hwb];exact HFD0.out.trans (Fr.alloc _ _)
    have hS2:=HKS.out wb hfb
    have HFD:=Lib.hid (show SiB wb (.slice none 0 0) ({ insD xi with w:=ws }).nf ({ insD xi with w:=ws }).f from sib_nil _ _)
    have HTD:=Lib.hid (show SiB wb (.slice (some ⟨wd.heap.size,0,none⟩) 1 1) ({ insD xi with w:=ws }).nt ({ insD xi with w:=ws }).t from sib_blk (c:=#[.int .i64 xi]) (f:=(0,0)) (x:=fun _=>xi) hnb one_ml (lt1 rfl))
    rw [← hwb]
    clear hwb hnb hS0
    have HFB:=Lib.hid hfb;clear hfb
    refine hK.out _ _ (.inr hS2) ?_
    clear hK K
    try simp only [Act.put,List.setIfInBounds_toArray,List.set_cons_zero,List.set_cons_succ,List.getElem_toArray,List.getElem_cons_succ,List.getElem_cons_zero]
    refine AnyK.tk (i:=8) (v:=?vcz8) rfl (by kernel_rfl) hS2 (Or.inl ⟨by kernel_rfl,?hycz8⟩) ?restcz8 (hQ:=fun _ _ _ h=>HPAN.out _ _ _ _ _ h)
    case hycz8=>rintro wk ⟨s1,s2⟩;go_simp;try with_reducible rfl
    try simp only [Act.put,List.setIfInBounds_toArray,List.set_cons_zero,List.set_cons_succ,List.getElem_toArray,List.getElem_cons_succ,List.getElem_cons_zero]
    refine AnyK.one (i:=9) rfl (by kernel_rfl) (by rfl) (fun K hK=>?_)
    go_simp
    obtain ⟨o,ho⟩:∃ o,o=Obj.cells #[.slice none 0 0,.slice (some ⟨wd.heap.size,0,none⟩) 1 1,.string ws] 50:=⟨_,rfl⟩
    have hny:(wb.alloc o).heap[wb.heap.size]?=some (.cells #[.slice none 0 0,.slice (some ⟨wd.heap.size,0,none⟩) 1 1,.string ws] 50 (0,0)):=by rw [ho];exact heap_alloc_new wb _
    have hS3:=HKS.out (wb.alloc o) (HFB.out.trans (Fr.alloc _ _))
    have hrw:=HROW.out wb o HFB.out
    have hBy:w.heap.size≤(wb.alloc o).heap.size:=(HBE.out.trans ((HFB.out.trans (Fr.alloc (C:=fun _=>False) wb o)).below HBE.out.size (fun _ e=>e.elim))).size
    rw [← ho]
    clear ho
    obtain ⟨wy,hwy⟩:∃ wy,wy=wb.alloc o:=⟨_,rfl⟩
    rw [← hwy] at hny hS3 hrw hBy
    rw [← hwy]
    have HWY:=Lib.hid hwy;clear hwy
    have HNY:=Lib.hid hny;clear hny
    have HRW:=Lib.hid hrw;clear hrw
    refine hK.out _ _ (.inr hS3) ?_
    clear hK K
    try simp only [Act.put,List.setIfInBounds_toArray,List.set_cons_zero,List.set_cons_succ,List.getElem_toArray,List.getElem_cons_succ,List.getElem_cons_zero]
    refine AnyK.one (i:=10) rfl (by kernel_rfl) (by rfl) (fun K hK=>?_)
    refine wp_append_lies _ (.tmp 102) (.tmp 110) 22 rfl w.heap.size 50 i0 (.agg #[.slice none 0 0,.slice none 0 0,.string ⟨#[]⟩]) 3 64 Tryz.underlying22 HI0.out HY0.out HY1.out HY2.out rfl (by omega) (.slice sa Mi.n sc) Mi.n _ (by simp [Act.eval]) HRW.out ⟨wb.heap.size,0,none⟩ 1 1 [.slice none 0 0,.slice (some ⟨wd.heap.size,0,none⟩) 1 1,.string ws] (by simp [Act.eval]) rfl (news_st (cs:=#[.slice none 0 0,.slice (some ⟨wd.heap.size,0,none⟩) 1 1,.string ws]) HNY.out) three_one (by omega) (by unfold maxLen;omega) (by omega) hBy _ rfl ?_
    intro go cp we hown2 hgrow hat hlt
    rw [HWY.out] at hgrow
    obtain ⟨hS4,f0⟩:=HFAR.out wb o we HFB.out hgrow
    have HB2:=Lib.hid (HADD.out wb o we go cp _ _ HFB.out HFD.out HTD.out hown2 hgrow)
    clear hown2 hgrow hat hlt
    refine hK.out _ _ (.inr hS4) ?_
    clear hK K
    try simp only [Act.put,List.setIfInBounds_toArray,List.set_cons_zero,List.set_cons_succ,List.getElem_toArray,List.getElem_cons_succ,List.getElem_cons_zero]
    refine AnyK.tk (i:=11) (v:=?vdz11) rfl (by kernel_rfl) hS4 (Or.inl ⟨by kernel_rfl,?hydz11⟩) ?restdz11 (hQ:=fun _ _ _ h=>HPAN.out _ _ _ _ _ h)
    case hydz11=>rintro wk ⟨s1,s2⟩;go_simp;try with_reducible rfl
    try simp only [Act.put,List.setIfInBounds_toArray,List.set_cons_zero,List.set_cons_succ,List.getElem_toArray,List.getElem_cons_succ,List.getElem_cons_zero]
    have n0:=hS4.1
    refine AnyK.one (i:=12) rfl (by kernel_rfl) (by rfl) (fun K hK=>?_)
    go_simp
    refine hK.out _ _ (.inl rfl) (AnyK.done (by kernel_rfl) ?_ _)
    clear hK K
    go_wp2_with fail
    go_roundw
    case rel=>exact ⟨i+1,by omega,by go_num,by rw [HNX.out];exact HB2.out⟩
    case measure=>simp [intOf];omega
   ·have hin:i=n:=by omega
    have hgt:¬ ((i:Int) < (n:Int)):=by omega
    have hsr:=HSR.out
    rw [hin] at hsr
    have HS2:=Lib.hid (show ∃ sv F T,SrI w wr rb mb (oneE insD ws x n M0) sv F T from ⟨_,_,_,hsr⟩);clear hsr hin
    go_wp2_with fail
    exact HEXIT.out _ _ _ _ _ _ _ _ _ _ _ _ _ _ _ _ _ _ _ _ _ _ _ _ HS2.out
  ·have hsr:=HSR.out
   rw [oneE_nil insD (empty_eq hO) x M0 i,← oneE_nil insD (empty_eq hO) x M0 n] at hsr
   have HS2:=Lib.hid (show ∃ sv F T,SrI w wr rb mb (oneE insD ws x n M0) sv F T from ⟨_,_,_,hsr⟩);clear hsr
   go_wp2_with fail
   exact HEXIT.out _ _ _ _ _ _ _ _ _ _ _ _ _ _ _ _ _ _ _ _ _ _ _ _ HS2.out
noncomputable def sBody8:Code:=loopS (((Tryz.f29).body.bind (blkS 8)).getD .skip)
set_option maxRecDepth 1000000 in
set_option maxHeartbeats 16000000 in
theorem sloop8 {n mb rb bl ol cl:Nat} {al:Option Addr} {x:Nat→Int} {w wr:World} {M0:EM} {ws:ByteArray} {Q0:Exit→Act→World→Prop} {u1 u3 u4 u5 u6 u7 u8 u9 u10 u11 u12 u13 u14 u15 u16 u17 u19 u21 u22 u23 u24 u25 u26 u27 u28 u29 u30 u31 u32 u33 u34 u35 u36 u37 u38 u39 u40 u41 u42 u43 u44 u45 u46 u47 u48 u49 u50 u51 u52 u53 u54 u55 u56 u57 u58 u59 u60 u61 u62 u63 u64 u65 u66 u67 u68 u69 u70 u71 u72 u73 u74 u75 u76 u77 u78 u79 u80 u81 u82 u83 u84 u85 u86 u87 u88 u89 u90 u91 u92 u93 u94 u95 u96 u97 u98 u99 u100 u101 u102 u103 u104 u105 u106 u107 u108 u109 u110 u111 u112 u113 u114 u115 u116 u117 u118 u119 u120 u121 u122 u123 u124 u125 u126 u127 u128 u129 u130 u131 u132 u133 u134 u135 u136 u137 u138 u139 u140 u141 u142 u143 u144 u145 u146 u147 u148 u149 u150 u151 u152 u153 u154 u155 u156 u157 u158 u159 u160 u161 u162 u163 u164 u165 u166 u167 u168 u169 u170 u171 u172 u173 u174 u175 u176 u177 u178 u179 u180 u181 u182 u183 u184 u185 u186 u187 u188 u189 u190 u191 u192 u193 u194 u195 u196 u197 u198 u199 u200 u201 u202 u203 u204 u205 u206 u207 u208 u209 u210 u211 u212 u213 u214 u215 u216 u217 u218 u219 u220:Value}
  (HA:Hid (0 < n→al=some ⟨bl,ol,none⟩)) (HBL:Hid (0 < n→bl < w.heap.size∧some bl≠none)) (HCL:Hid (∀ i,i < n→w.cell? ⟨bl,ol+i,none⟩=some (.int .i64 (x i)))) (hn:n≤100) (hM:M0.n≤50000)
  (HSR:Hid (∃ sv F T,SrI w wr rb mb M0 sv F T))
  (HPAN:Hid (∀ (e:List PanicEntry) (a:Act) (d:Option Tmp) (v:Value) (w':World),Q0 (.panic e) (a.put d v) w'→Q0 (.panic e) a w'))
  (HEXIT:Hid (∀ (v20 v113 v114 v115 v116 v117 v118 v119 v120 v121 v122 v123 v124 v125 v126 v127 v128 v129 v130 v131 v132 v133 v134:Value) (w':World),(∃ sv F T,SrI w w' rb mb (oneE remD ws x n M0) sv F T)→Q0 (.exit 8) ⟨List.toArray (.slice al n cl::u1::.string ws::u3::u4::u5::u6::u7::u8::u9::u10::u11::u12::u13::u14::u15::u16::u17::.pointer (some ⟨mb,0,none⟩)::u19::v20::u21::u22::u23::u24::u25::u26::u27::u28::u29::u30::u31::u32::u33::u34::u35::u36::u37::u38::u39::u40::u41::u42::u43::u44::u45::u46::u47::u48::u49::u50::u51::u52::u53::u54::u55::u56::u57::u58::u59::u60::u61::u62::u63::u64::u65::u66::u67::u68::u69::u70::u71::u72::u73::u74::u75::u76::u77::u78::u79::u80::u81::u82::u83::u84::u85::u86::u87::u88::u89::u90::u91::u92::u93::u94::u95::u96::u97::u98::u99::u100::u101::u102::u103::u104::u105::u106::u107::u108::u109::u110::u111::u112::v113::v114::v115::v116::v117::v118::v119::v120::v121::v122::v123::v124::v125::v126::v127::v128::v129::v130::v131::v132::v133::v134::u135::u136::u137::u138::u139::u140::u141::u142::u143::u144::u145::u146::u147::u148::u149::u150::u151::u152::u153::u154::u155::u156::u157::u158::u159::u160::u161::u162::u163::u164::u165::u166::u167::u168::u169::u170::u171::u172::u173::u174::u175::u176::u177::u178::u179::u180::u181::u182::u183::u184::u185::u186::u187::u188::u189::u190::u191::u192::u193::u194::u195::u196::u197::u198::u199::u200::u201::u202::u203::u204::u205::u206::u207::u208::u209::u210::u211::u212::u213::u214::u215::u216::u217::u218::u219::u220::[]),[]⟩ w')) :
  Code.wp Tryz.prog (Code.loop sBody8) Q0 ⟨List.toArray (.slice al n cl::u1::.string ws::u3::u4::u5::u6::u7::u8::u9::u10::u11::u12::u13::u14::u15::u16::u17::.pointer (some ⟨mb,0,none⟩)::u19::.int .i64 0::u21::u22::u23::u24::u25::u26::u27::u28::u29::u30::u31::u32::u33::u34::u35::u36::u37::u38::u39::u40::u41::u42::u43::u44::u45::u46::u47::u48::u49::u50::u51::u52::u53::u54::u55::u56::u57::u58::u59::u60::u61::u62::u63::u64::u65::u66::u67::u68::u69::u70::u71::u72::u73::u74::u75::u76::u77::u78::u79::u80::u81::u82::u83::u84::u85::u86::u87::u88::u89::u90::u91::u92::u93::u94::u95::u96::u97::u98::u99::u100::u101::u102::u103::u104::u105::u106::u107::u108::u109::u110::u111::u112::u113::u114::u115::u116::u117::u118::u119::u120::u121::u122::u123::u124::u125::u126::u127::u128::u129::u130::u131::u132::u133::u134::u135::u136::u137::u138::u139::u140::u141::u142::u143::u144::u145::u146::u147::u148::u149::u150::u151::u152::u153::u154::u155::u156::u157::u158::u159::u160::u161::u162::u163::u164::u165::u166::u167::u168::u169::u170::u171::u172::u173::u174::u175::u176::u177::u178::u179::u180::u181::u182::u183::u184::u185::u186::u187::u188::u189::u190::u191::u192::u193::u194::u195::u196::u197::u198::u199::u200::u201::u202::u203::u204::u205::u206::u207::u208::u209::u210::u211::u212::u213::u214::u215::u216::u217::u218::u219::u220::[]),[]⟩ wr:=by
 obtain ⟨i0,hi0,hy0,hy1,hy2⟩:=info_parts2 info_edit
 have HI0:=Lib.hid hi0;clear hi0
 have HY0:=Lib.hid hy0;clear hy0
 have HY1:=Lib.hid hy1;clear hy1
 have HY2:=Lib.hid hy2;clear hy2
 conv=>arg 2;arg 1;whnf
 go_loopw [20] (fun v wr=>∃ i:Nat,i≤n∧v=.int .i64 (i:Int)∧∃ sv F T,SrI w wr rb mb (oneE remD ws x i M0) sv F T) (fun v _=>n - (intOf v).toNat)
 case atStart=>exact ⟨0,Nat.zero_le _,rfl,HSR.out⟩
 case round =>
  obtain ⟨i,hi,rfl,sv,F,T,hsr⟩:=hrel
  clear HSR
  have HSR:=Lib.hid hsr;clear hsr
  cases hO:(ws.toList == [])
  ·by_cases hit:i < n
   ·have hiz:(i:Int) < (n:Int):=by omega
    have hiz0:(0:Int)≤(i:Int):=by omega
    obtain rfl:=HA.out (by omega)
    have hbl:=(HBL.out (by omega)).1
    have hmo:=oneE_most remD ws x M0 i
    have hws:ws≠⟨#[]⟩:=fun e=>by rw [e] at hO;simp at hO
    have hnx:oneE remD ws x (i+1) M0=apE (oneE remD ws x i M0) { remD (x i) with w:=ws }:=by
     show (if ws=⟨#[]⟩ then _ else _)=_
     rw [if_neg hws]
    obtain ⟨Mi,hMi⟩:∃ Mi,Mi=oneE remD ws x i M0:=⟨_,rfl⟩
    obtain ⟨xi,hxi⟩:∃ xi,xi=x i:=⟨_,rfl⟩
    have hcl:∀ W,Fr (fun _=>False) wr W→W.cell? ⟨bl,ol+i,none⟩=some (.int .i64 xi):=fun W hf=>hf.cell ((HSR.out.be.cell (p:=⟨bl,ol+i,none⟩) hbl).trans (by rw [hxi];exact HCL.out i hit)) (fun e=>e)
    rw [← hMi] at HSR hmo hnx
    rw [← hxi] at hnx
    have HNX:=Lib.hid hnx;clear hnx hMi hxi
    obtain ⟨_,hmo2⟩:=hmo
    have hmn:Mi.n≤60000:=by omega
    clear hmo2 hws
    obtain ⟨sa,sc,hsv,_,_⟩:=row_any HSR.out.own.top
    subst hsv
    obtain ⟨wd,hwd⟩:∃ wd,wd=wr.drew:=⟨_,rfl⟩
    have hfd:Fr (fun _=>False) wr wd:=by rw [hwd];exact fr_drew wr
    have HBE:=Lib.hid HSR.out.be
    have hks:∀ W,Fr (fun _=>False) wr W→(fun wk:World=>wk.cell? ⟨mb,0,none⟩=some (.slice sa Mi.n sc)∧wk.cell? ⟨bl,ol+i,none⟩=some (.int .i64 xi)) W:=fun W hf=>⟨cell_of (HSR.out.new hf).km 0 rfl,hcl W hf⟩
    have HKS:=Lib.hid hks;clear hks
    have hfar:∀ (W:World) (o:Obj) (we:World),Fr (fun _=>False) wr W→(W.alloc o).grownBy we (Value.slice sa Mi.n sc).ownBlock→(fun wk:World=>wk.cell? ⟨mb,0,none⟩=some (.slice sa Mi.n sc)∧wk.cell? ⟨bl,ol+i,none⟩=some (.int .i64 xi)) we∧we.frozen? ⟨mb,0,none⟩=false:=fun W o we hf hg=>by
     have h:=HSR.out.new hf
     obtain ⟨hfw,hkm,_⟩:=h.far hg
     have hbo:(Value.slice sa Mi.n sc).ownBlock≠some bl:=fun e=>by have:=(World.ownsRow.lt h.own.top bl e).1;omega
     exact ⟨⟨cell_of hkm 0 rfl,hfw.cell (hcl W hf) (fun e=>hbo e)⟩,by unfold BxE at hkm;simp [World.frozen?,hkm]⟩
    have HFAR:=Lib.hid hfar;clear hfar
    have hadd:∀ (W:World) (o:Obj) (we:World) (go cp:Nat) (Fd Td:Value),Fr (fun _=>False) wr W→SiB W Fd ({ remD xi with w:=ws }).nf ({ remD xi with w:=ws }).f→SiB W Td ({ remD xi with w:=ws }).nt ({ remD xi with w:=ws }).t →
      we.ownsRow w.heap.size 50 3 (.slice (some ⟨go,0,none⟩) (Mi.n+1) cp) (Mi.n+1) (cat (ed3 Mi F T) Mi.n++[Fd,Td,.string ws])→(W.alloc o).grownBy we (Value.slice sa Mi.n sc).ownBlock →
      ∃ sv F T,SrI w (we.setCell ⟨mb,0,none⟩ (.slice (some ⟨go,0,none⟩) (Mi.n+1) cp)) rb mb (apE Mi { remD xi with w:=ws }) sv F T:=fun W o we go cp Fd Td hf hF hT h1 h2=>⟨_,_,_,(HSR.out.new hf).add (d:={ remD xi with w:=ws }) hF hT h1 h2⟩
    have HADD:=Lib.hid hadd;clear hadd
    have HROW:=Lib.hid (show ∀ (W:World) (o:Obj),Fr (fun _=>False) wr W→(W.alloc o).ownsRow w.heap.size 50 3 (.slice sa Mi.n sc) Mi.n (cat (ed3 Mi F T) Mi.n) from fun W o hf=>World.ownsRow.alloc (HSR.out.new hf).own.top _)
    have m0:=cell_of HSR.out.km 0 rfl
    have c0:=hcl wr (Fr.refl _ _)
    have HFD0:=Lib.hid hfd;clear hfd hcl
    go_wp2_with fail
    have hS0:=HKS.out wd HFD0.out
    refine region_heldK (fun wk:World=>wk.cell? ⟨mb,0,none⟩=some (.slice sa Mi.n sc)∧wk.cell? ⟨bl,ol+i,none⟩=some (.int .i64 xi)) 12 (by kernel_rfl) ?_
    rw [← hwd]
    clear hwd m0 c0
    refine AnyK.tk (i:=0) (v:=?va0) rfl (by kernel_rfl) hS0 (Or.inl ⟨by kernel_rfl,?hya0⟩) ?resta0 (hQ:=fun _ _ _ h=>HPAN.out _ _ _ _ _ h)
    case hya0=>rintro wk ⟨s1,s2⟩;go_simp;try with_reducible rfl
    refine AnyK.tk (i:=1) (v:=?va1) rfl (by kernel_rfl) hS0 (Or.inl ⟨by kernel_rfl,?hya1⟩) ?resta1 (hQ:=fun _ _ _ h=>HPAN.out _ _ _ _ _ h)
    case hya1=>rintro wk ⟨s1,s2⟩;go_simp;try with_reducible rfl
    refine AnyK.tk (i:=2) (v:=?va2) rfl (by kernel_rfl) hS0 (Or.inl ⟨by kernel_rfl,?hya2⟩) ?resta2 (hQ:=fun _ _ _ h=>HPAN.out _ _ _ _ _ h)
    case hya2=>rintro wk ⟨s1,s2⟩;go_simp;try with_reducible rfl
    refine AnyK.tk (i:=3) (v:=?va3) rfl (by kernel_rfl) hS0 (Or.inl ⟨by kernel_rfl,?hya3⟩) ?resta3 (hQ:=fun _ _ _ h=>HPAN.out _ _ _ _ _ h)
    case hya3=>rintro wk ⟨s1,s2⟩;go_simp;try with_reducible rfl
    refine AnyK.tk (i:=4) (v:=?va4) rfl (by kernel_rfl) hS0 (Or.inl ⟨by kernel_rfl,?hya4⟩) ?resta4 (hQ:=fun _ _ _ h=>HPAN.out _ _ _ _ _ h)
    case hya4=>rintro wk ⟨s1,s2⟩;go_simp;try with_reducible rfl
    refine AnyK.tk (i:=5) (v:=?va5) rfl (by kernel_rfl) hS0 (Or.inl ⟨by kernel_rfl,?hya5⟩) ?resta5 (hQ:=fun _ _ _ h=>HPAN.out _ _ _ _ _ h)
    case hya5=>rintro wk ⟨s1,s2⟩;go_simp;try with_reducible rfl
    try simp only [Act.put,List.setIfInBounds_toArray,List.set_cons_zero,List.set_cons_succ,List.getElem_toArray,List.getElem_cons_succ,List.getElem_cons_zero]
    refine AnyK.tk (i:=7) (v:=?vb7) rfl (by kernel_rfl) hS0 (Or.inl ⟨by kernel_rfl,?hyb7⟩) ?restb7 (hQ:=fun _ _ _ h=>HPAN.out _ _ _ _ _ h)
    case hyb7=>rintro wk ⟨s1,s2⟩;go_simp;try with_reducible rfl
    try simp only [Act.put,List.setIfInBounds_toArray,List.set_cons_zero,List.set_cons_succ,List.getElem_toArray,List.getElem_cons_succ,List.getElem_cons_zero]
    refine AnyK.one (i:=6) rfl (by kernel_rfl) (by rfl) (fun K hK=>?_)
    go_simp
    obtain ⟨wb,hwb⟩:∃ wb,wb=wd.alloc (.cells #[.int .i64 xi] 3):=⟨_,rfl⟩
    have hnb:wb.heap[wd.heap.size]?=some (.cells #[.int .i64 xi] 3 (0,0)):=by rw [hwb];exact heap_alloc_new wd _
    have hfb:Fr (fun _=>False) wr wb:=by rw [hwb];exact HFD0.out.trans (Fr.alloc _ _)
    have hS2:=HKS.out wb hfb
    have HFD:=Lib.hid (show SiB wb (.slice (some ⟨wd.heap.size,0,none⟩) 1 1) ({ remD xi with w:=ws }).nf ({ remD xi with w:=ws }).f from sib_blk (c:=#[.int .i64 xi]) (f:=(0,0)) (x:=fun _=>xi) hnb one_ml (lt1 rfl))
    have HTD:=Lib.hid (show SiB wb (.slice none 0 0) ({ remD xi with w:=ws }).nt ({ remD xi with w:=ws }).t from sib_nil _ _)
    rw [← hwb]
    clear hwb hnb hS0
    have HFB:=Lib.hid hfb;clear hfb
    refine hK.out _ _ (.inr hS2) ?_
    clear hK K
    try simp only [Act.put,List.setIfInBounds_toArray,List.set_cons_zero,List.set_cons_succ,List.getElem_toArray,List.getElem_cons_succ,List.getElem_cons_zero]
    refine AnyK.tk (i:=8) (v:=?vcz8) rfl (by kernel_rfl) hS2 (Or.inl ⟨by kernel_rfl,?hycz8⟩) ?restcz8 (hQ:=fun _ _ _ h=>HPAN.out _ _ _ _ _ h)
    case hycz8=>rintro wk ⟨s1,s2⟩;go_simp;try with_reducible rfl
    try simp only [Act.put,List.setIfInBounds_toArray,List.set_cons_zero,List.set_cons_succ,List.getElem_toArray,List.getElem_cons_succ,List.getElem_cons_zero]
    refine AnyK.one (i:=9) rfl (by kernel_rfl) (by rfl) (fun K hK=>?_)
    go_simp
    obtain ⟨o,ho⟩:∃ o,o=Obj.cells #[.slice (some ⟨wd.heap.size,0,none⟩) 1 1,.slice none 0 0,.string ws] 50:=⟨_,rfl⟩
    have hny:(wb.alloc o).heap[wb.heap.size]?=some (.cells #[.slice (some ⟨wd.heap.size,0,none⟩) 1 1,.slice none 0 0,.string ws] 50 (0,0)):=by rw [ho];exact heap_alloc_new wb _
    have hS3:=HKS.out (wb.alloc o) (HFB.out.trans (Fr.alloc _ _))
    have hrw:=HROW.out wb o HFB.out
    have hBy:w.heap.size≤(wb.alloc o).heap.size:=(HBE.out.trans ((HFB.out.trans (Fr.alloc (C:=fun _=>False) wb o)).below HBE.out.size (fun _ e=>e.elim))).size
    rw [← ho]
    clear ho
    obtain ⟨wy,hwy⟩:∃ wy,wy=wb.alloc o:=⟨_,rfl⟩
    rw [← hwy] at hny hS3 hrw hBy
    rw [← hwy]
    have HWY:=Lib.hid hwy;clear hwy
    have HNY:=Lib.hid hny;clear hny
    have HRW:=Lib.hid hrw;clear hrw
    refine hK.out _ _ (.inr hS3) ?_
    clear hK K
    try simp only [Act.put,List.setIfInBounds_toArray,List.set_cons_zero,List.set_cons_succ,List.getElem_toArray,List.getElem_cons_succ,List.getElem_cons_zero]
    refine AnyK.one (i:=10) rfl (by kernel_rfl) (by rfl) (fun K hK=>?_)
    refine wp_append_lies _ (.tmp 124) (.tmp 132) 22 rfl w.heap.size 50 i0 (.agg #[.slice none 0 0,.slice none 0 0,.string ⟨#[]⟩]) 3 64 Tryz.underlying22 HI0.out HY0.out HY1.out HY2.out rfl (by omega) (.slice sa Mi.n sc) Mi.n _ (by simp [Act.eval]) HRW.out ⟨wb.heap.size,0,none⟩ 1 1 [.slice (some ⟨wd.heap.size,0,none⟩) 1 1,.slice none 0 0,.string ws] (by simp [Act.eval]) rfl (news_st (cs:=#[.slice (some ⟨wd.heap.size,0,none⟩) 1 1,.slice none 0 0,.string ws]) HNY.out) three_one (by omega) (by unfold maxLen;omega) (by omega) hBy _ rfl ?_
    intro go cp we hown2 hgrow hat hlt
    rw [HWY.out] at hgrow
    obtain ⟨hS4,f0⟩:=HFAR.out wb o we HFB.out hgrow
    have HB2:=Lib.hid (HADD.out wb o we go cp _ _ HFB.out HFD.out HTD.out hown2 hgrow)
    clear hown2 hgrow hat hlt
    refine hK.out _ _ (.inr hS4) ?_
    clear hK K
    try simp only [Act.put,List.setIfInBounds_toArray,List.set_cons_zero,List.set_cons_succ,List.getElem_toArray,List.getElem_cons_succ,List.getElem_cons_zero]
    refine AnyK.tk (i:=11) (v:=?vdz11) rfl (by kernel_rfl) hS4 (Or.inl ⟨by kernel_rfl,?hydz11⟩) ?restdz11 (hQ:=fun _ _ _ h=>HPAN.out _ _ _ _ _ h)
    case hydz11=>rintro wk ⟨s1,s2⟩;go_simp;try with_reducible rfl
    try simp only [Act.put,List.setIfInBounds_toArray,List.set_cons_zero,List.set_cons_succ,List.getElem_toArray,List.getElem_cons_succ,List.getElem_cons_zero]
    have n0:=hS4.1
    refine AnyK.one (i:=12) rfl (by kernel_rfl) (by rfl) (fun K hK=>?_)
    go_simp
    refine hK.out _ _ (.inl rfl) (AnyK.done (by kernel_rfl) ?_ _)
    clear hK K
    go_wp2_with fail
    go_roundw
    case rel=>exact ⟨i+1,by omega,by go_num,by rw [HNX.out];exact HB2.out⟩
    case measure=>simp [intOf];omega
   ·have hin:i=n:=by omega
    have hgt:¬ ((i:Int) < (n:Int)):=by omega
    have hsr:=HSR.out
    rw [hin] at hsr
    have HS2:=Lib.hid (show ∃ sv F T,SrI w wr rb mb (oneE remD ws x n M0) sv F T from ⟨_,_,_,hsr⟩);clear hsr hin
    go_wp2_with fail
    exact HEXIT.out _ _ _ _ _ _ _ _ _ _ _ _ _ _ _ _ _ _ _ _ _ _ _ _ HS2.out
  ·have hsr:=HSR.out
   rw [oneE_nil remD (empty_eq hO) x M0 i,← oneE_nil remD (empty_eq hO) x M0 n] at hsr
   have HS2:=Lib.hid (show ∃ sv F T,SrI w wr rb mb (oneE remD ws x n M0) sv F T from ⟨_,_,_,hsr⟩);clear hsr
   go_wp2_with fail
   exact HEXIT.out _ _ _ _ _ _ _ _ _ _ _ _ _ _ _ _ _ _ _ _ _ _ _ _ HS2.out
end Go.Proofs.YtjekapjbigfkbaaGreatDoor
