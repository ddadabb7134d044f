/- Parts of a proof: EdRB. -/
import Derived.Test.YtjekapjbigfkbaaGreatDoorK29
namespace Go.Proofs.YtjekapjbigfkbaaGreatDoor
open Go Go.RowKit Go.Deep
set_option maxRecDepth 100000
set_option linter.unusedSimpArgs false
theorem news1c {w:World} {b:Nat} {x:Value} (h:w.cell? ⟨b,0,none⟩=some x):∀ j u,[x][j]?=some u→w.cell? ((⟨b,0,none⟩:Addr).add j)=some u:=by
 intro j u hu
 cases j with
 | zero=>simp at hu;subst hu;simpa [Addr.add] using h
 | succ j=>simp at hu
theorem updX_XI0:updX (fun _ _ _=>infS) 0 0 0 ⟨#[48]⟩=XI0:=by funext k i j;rfl
theorem btt_sm {a b:ByteArray} (ha:smS a) (hb:smS b):smS (bttC a b):=by unfold bttC;split;exact hb;exact ha
theorem lstB_sm {X:XT} (h:∀ k i j,smS (X k i j)) (a b:Nat):∀ m,smS (lstB X a b m)
 | 0=>inf_sm
 | m+1=>btt_sm (lstB_sm h a b m) (h _ _ _)
def LL (n2 n3 k i j:Nat) (L:Nat→Nat→Nat):Prop:=(∀ q i',q < k→i' < n2→L q i'=n3)∧∀ i',i' < n2→L k i'=if i' < i then n3 else if i'=i then j else 0
theorem LL.app {n2 n3 k i j:Nat} {L:Nat→Nat→Nat} (h:LL n2 n3 k i j L) (hi:i < n2):LL n2 n3 k i (j+1) (fun a b=>if a=k∧b=i then L k i+1 else L a b):=by
 have hj:L k i=j:=by rw [h.2 i hi,if_neg (Nat.lt_irrefl i),if_pos rfl]
 refine ⟨fun q i' hq hi'=>?_,fun i' hi'=>?_⟩
 ·show (if q=k∧i'=i then _ else _)=_
  rw [if_neg (fun h=>by omega)];exact h.1 q i' hq hi'
 ·show (if k=k∧i'=i then _ else _)=_
  by_cases e:i'=i
  ·rw [if_pos ⟨rfl,e⟩,if_neg (by omega),if_pos e,hj]
  ·rw [if_neg (fun h=>e h.2),h.2 i' hi',if_neg e,if_neg e]
theorem LL.next {n2 n3 k i:Nat} {L:Nat→Nat→Nat} (h:LL n2 n3 k i n3 L):LL n2 n3 k (i+1) 0 L:=by
 refine ⟨h.1,fun i' hi'=>?_⟩
 rw [h.2 i' hi']
 by_cases e:i' < i
 ·rw [if_pos e,if_pos (by omega)]
 ·by_cases e2:i'=i
  ·rw [if_neg e,if_pos e2,if_pos (by omega)]
  ·rw [if_neg e,if_neg e2,if_neg (by omega)];split <;> rfl
theorem LL.row {n2 n3 k:Nat} {L:Nat→Nat→Nat} (h:∀ q i',q < k→i' < n2→L q i'=n3):LL n2 n3 k 0 0 (fun q=>if q=k then fun _=>0 else L q):=by
 refine ⟨fun q i' hq hi'=>?_,fun i' hi'=>?_⟩
 ·show (if q=k then _ else _:Nat→Nat) i'=_
  rw [if_neg (by omega)];exact h q i' hq hi'
 ·show (if k=k then _ else _:Nat→Nat) i'=_
  rw [if_pos rfl];simp
theorem LL.full {n2 n3 k:Nat} {L:Nat→Nat→Nat} (h:LL n2 n3 k n2 0 L):∀ q i',q < k+1→i' < n2→L q i'=n3:=fun q i' hq hi'=>by
 by_cases e:q=k
 ·subst e;rw [h.2 i' hi',if_pos hi']
 ·exact h.1 q i' (by omega) hi'
structure RcI (w0 w:World) (mb g n1 n2 n3:Nat) (M:EM) (sv:Value) (r:Nat→Nat) (s c:Nat→Nat→Nat) (X:XT):Prop where
 cv:Cv w w0.heap.size g n1 n2 n3 r s c X
 bm:BoxE w mb M sv
 be:Below w0.heap.size w0 w
theorem RcI.new {w0 w w':World} {mb g n1 n2 n3:Nat} {M:EM} {sv:Value} {r:Nat→Nat} {s c:Nat→Nat→Nat} {X:XT} (h:RcI w0 w mb g n1 n2 n3 M sv r s c X) (hf:Fr (fun _=>False) w w'):RcI w0 w' mb g n1 n2 n3 M sv r s c X :=
 ⟨h.cv.new hf,(hf.block mb h.bm.lt (fun e=>e)).trans h.bm,h.be.trans (hf.below h.be.size (fun _ e=>e.elim))⟩
theorem RcI.set {w0 w:World} {mb g n1 n2 n3:Nat} {M:EM} {sv:Value} {r:Nat→Nat} {s c:Nat→Nat→Nat} {X:XT} (h:RcI w0 w mb g n1 n2 n3 M sv r s c X) {k i j:Nat} {v:ByteArray} (hk:k < n1) (hi:i < n2) (hj:j < n3) (hv:smS v):RcI w0 (w.setCell ⟨s k i,j,none⟩ (.string v)) mb g n1 n2 n3 M sv r s c (updX X k i j v):=by
 refine ⟨h.cv.set hk hi hj hv,?_,h.be.setCell (p:=⟨s k i,j,none⟩) (h.cv.slt hk hi).1 _⟩
 obtain ⟨cs,hb⟩:=h.cv.blk hk hi
 refine (blk_setCell_other _ _ _ _ (fun e=>?_)).trans h.bm
 have h1:=h.bm;unfold BoxE at h1;rw [e] at h1;simp only [] at h1;rw [hb] at h1;simp at h1
def blkOf (n:Nat):Code→Option Code
 | .block m c=>if m == n then some c else blkOf n c
 | .seq a b=>(blkOf n a).or (blkOf n b)
 | .cond _ a b=>(blkOf n a).or (blkOf n b)
 | .loop c=>blkOf n c
 | .scope c=>blkOf n c
 | _=>none
def loopOf:Code→Code
 | .loop c=>c
 | _=>.skip
noncomputable def edBody:Code:=loopOf (((Tryz.f18).body.bind (blkOf 12)).getD .skip)
set_option maxRecDepth 1000000 in
set_option maxHeartbeats 16000000 in
theorem edloop {M:EM} {na nb:Nat} {x y:Nat→Int} {P:EP} {w wr:World} {mb g n1 n2 n3 mn k i j be oe cap cx cy:Nat} {a ax ay:Option Addr} {EA EA':Nat→Option Addr} {EC EC':Nat→Nat} {r:Nat→Nat} {s c:Nat→Nat→Nat} {X X1:XT} {zc:ST} {W:ByteArray} {Q0:Exit→Act→World→Prop} {u0 u4 u5 u6 u7 u8 u10 u11 u12 u18 u19 u20 u21 u22 u23 u24 u25 u26 u27 u28 u29 u30 u31 u32 u33 u34 u35 u36 u37 u38 u39 u40 u41 u42 u43 u44 u45 u46 u47 u48 u49 u50 u51 u52 u53 u54 u55 u56 u57 u58 u59 u60 u61 u62 u63 u64 u65 u66 u67 u68 u69 u70 u71 u72 u73 u74 u75 u76 u77 u78 u79 u80 u81 u82 u83 u84 u85 u86 u87 u88 u89 u90 u91 u92 u93 u94 u95 u96 u97 u98 u99 u100 u101 u102 u103 u104 u105 u106 u107 u108 u109 u110 u111 u112 u113 u114 u115 u116 u117 u118 u119 u120 u121 u122 u123 u124 u125 u126 u127 u128 u129 u130 u131 u132 u133 u134 u135 u136 u137 u138 u139 u140 u141 u142 u143 u144 u145 u146 u147 u148 u149 u150 u151 u152 u153 u154 u155 u156 u157 u158 u159 u160 u161 u162 u163 u164 u165 u166 u167 u168 u169 u170 u171 u172 u173 u174 u175 u176 u177 u178 u179 u180 u181 u182 u183 u184 u185 u186 u187 u188 u189 u190 u191 u192 u193 u194 u195 u196 u197 u198 u199 u200 u201 u202 u203 u204 u205 u206 u207 u208 u209 u210 u211 u212 u213 u214 u215 u216 u217 u218 u219 u220 u221 u222 u223 u224 u225 u226 u227 u228 u229 u230 u231 u232 u233 u234 u235 u236 u237 u238 u239 u240 u241 u242 u243 u244 u245 u246 u247 u248 u249 u250 u251 u252 u253 u254 u255 u256 u257 u258 u259 u260 u261 u262 u263:Value}
  (HP:Hid (P=⟨M,na,x,nb,y⟩)) (HV:Hid (VE M)) (HSZ:Hid (ESz M)) (HMN:Hid (M.most=(mn:Int))) (HN1:Hid (n1=mn+1)) (HN2:Hid (n2=na+1)) (HN3:Hid (n3=nb+1))
  (HX:Hid (Si none w (.slice ax na cx) na x)) (HY:Hid (Si none w (.slice ay nb cy) nb y)) (HAE:Hid (0 < M.n→a=some ⟨be,oe,none⟩)) (HBE:Hid (0 < M.n→be < w.heap.size∧some be≠none))
  (HROW:Hid (∀ i,i < M.n→w.cell? ⟨be,oe+i*3,none⟩=some (.slice (EA i) (M.e i).nf (EC i))∧w.cell? ⟨be,oe+i*3+1,none⟩=some (.slice (EA' i) (M.e i).nt (EC' i))∧w.cell? ⟨be,oe+i*3+2,none⟩=some (.string (M.e i).w)∧Si none w (.slice (EA i) (M.e i).nf (EC i)) (M.e i).nf (M.e i).f∧Si none w (.slice (EA' i) (M.e i).nt (EC' i)) (M.e i).nt (M.e i).t))
  (hna2:na≤200) (hnb2:nb≤200) (hM4:M.n≤400) (hmn6:mn≤6) (hkt:k < n1) (hit:i < n2) (hjt:j < n3)
  (HW:Hid (W=X k i j)) (HWN:Hid (W≠infS)) (HSMW:Hid (smS W)) (HX1o:Hid (RI X)) (HZC:Hid (zc=cpC P (k,i,j) (deI X,0)))
  (HEND:Hid ((stpC P (k,i,j) (deI X,0)).2≠0→costC P=(⟨#[]⟩,2)))
  (HXW0:Hid (X1 k i j=W)) (HX1c:Hid (RI X1)) (HCP:Hid ((deI X1,0)=zc)) (HRI1:Hid (RcI w wr mb g n1 n2 n3 M (.slice a M.n cap) r s c X1))
  (HPAN:Hid (∀ (e:List PanicEntry) (a:Act) (d:Option Tmp) (v:Value) (w':World),Q0 (.panic e) (a.put d v) w'→Q0 (.panic e) a w'))
  (HEXIT:Hid (∀ (v6 v7 v17 v18 v19 v20 v21 v22 v167 v168 v169 v170 v171 v172 v173 v174 v175 v176 v177 v178 v179 v180 v181 v182 v183 v184 v185 v186 v187 v188 v189 v190 v191 v192 v193 v194 v195 v196 v197 v198 v199 v200 v201 v202 v203 v204 v205 v206 v207 v208 v209 v210 v211 v212 v213 v214 v215 v216 v217 v218 v219 v220 v221 v222 v223 v224 v225 v226 v227 v228 v229 v230 v231 v232 v233 v234 v235 v236 v237 v238 v239 v240 v241:Value) (w':World) (X2:XT),RI X2→stpC P (k,i,j) (deI X,0)=(deI X2,0)→RcI w w' mb g n1 n2 n3 M (.slice a M.n cap) r s c X2→Q0 (.exit 12) ⟨List.toArray (u0::.slice ax na cx::.slice ay nb cy::.pointer (some ⟨mb,0,none⟩)::u4::u5::v6::v7::u8::.slice (some ⟨g,0,none⟩) n1 n1::u10::u11::u12::.int .i64 (k:Int)::.int .i64 (i:Int)::.int .i64 (j:Int)::.string W::v17::v18::v19::v20::v21::v22::u23::u24::u25::u26::u27::u28::u29::u30::u31::u32::u33::u34::u35::u36::u37::u38::u39::u40::u41::u42::u43::u44::u45::u46::u47::u48::u49::u50::u51::u52::u53::u54::u55::u56::u57::u58::u59::u60::u61::u62::u63::u64::u65::u66::u67::u68::u69::u70::u71::u72::u73::u74::u75::u76::u77::u78::u79::u80::u81::u82::u83::u84::u85::u86::u87::u88::u89::u90::u91::u92::u93::u94::u95::u96::u97::u98::u99::u100::u101::u102::u103::u104::u105::u106::u107::u108::u109::u110::u111::u112::u113::u114::u115::u116::u117::u118::u119::u120::u121::u122::u123::u124::u125::u126::u127::u128::u129::u130::u131::u132::u133::u134::u135::u136::u137::u138::u139::u140::u141::u142::u143::u144::u145::u146::u147::u148::u149::u150::u151::u152::u153::u154::u155::u156::u157::u158::u159::u160::u161::u162::u163::u164::u165::u166::v167::v168::v169::v170::v171::v172::v173::v174::v175::v176::v177::v178::v179::v180::v181::v182::v183::v184::v185::v186::v187::v188::v189::v190::v191::v192::v193::v194::v195::v196::v197::v198::v199::v200::v201::v202::v203::v204::v205::v206::v207::v208::v209::v210::v211::v212::v213::v214::v215::v216::v217::v218::v219::v220::v221::v222::v223::v224::v225::v226::v227::v228::v229::v230::v231::v232::v233::v234::v235::v236::v237::v238::v239::v240::v241::u242::u243::u244::u245::u246::u247::u248::u249::u250::u251::u252::u253::u254::u255::u256::u257::u258::u259::u260::u261::u262::u263::[]),[]⟩ w'))
  (HRET:Hid (∀ (v17 v18 v19 v20 v21 v22 v167 v168 v169 v170 v171 v172 v173 v174 v175 v176 v177 v178 v179 v180 v181 v182 v183 v184 v185 v186 v187 v188 v189 v190 v191 v192 v193 v194 v195 v196 v197 v198 v199 v200 v201 v202 v203 v204 v205 v206 v207 v208 v209 v210 v211 v212 v213 v214 v215 v216 v217 v218 v219 v220 v221 v222 v223 v224 v225 v226 v227 v228 v229 v230 v231 v232 v233 v234 v235 v236 v237 v238 v239 v240 v241:Value) (w':World),Below w.heap.size w w'→costC P=(⟨#[]⟩,2)→Q0 .ret ⟨List.toArray (u0::.slice ax na cx::.slice ay nb cy::.pointer (some ⟨mb,0,none⟩)::u4::u5::.string ⟨#[]⟩::.int .i64 2::u8::.slice (some ⟨g,0,none⟩) n1 n1::u10::u11::u12::.int .i64 (k:Int)::.int .i64 (i:Int)::.int .i64 (j:Int)::.string W::v17::v18::v19::v20::v21::v22::u23::u24::u25::u26::u27::u28::u29::u30::u31::u32::u33::u34::u35::u36::u37::u38::u39::u40::u41::u42::u43::u44::u45::u46::u47::u48::u49::u50::u51::u52::u53::u54::u55::u56::u57::u58::u59::u60::u61::u62::u63::u64::u65::u66::u67::u68::u69::u70::u71::u72::u73::u74::u75::u76::u77::u78::u79::u80::u81::u82::u83::u84::u85::u86::u87::u88::u89::u90::u91::u92::u93::u94::u95::u96::u97::u98::u99::u100::u101::u102::u103::u104::u105::u106::u107::u108::u109::u110::u111::u112::u113::u114::u115::u116::u117::u118::u119::u120::u121::u122::u123::u124::u125::u126::u127::u128::u129::u130::u131::u132::u133::u134::u135::u136::u137::u138::u139::u140::u141::u142::u143::u144::u145::u146::u147::u148::u149::u150::u151::u152::u153::u154::u155::u156::u157::u158::u159::u160::u161::u162::u163::u164::u165::u166::v167::v168::v169::v170::v171::v172::v173::v174::v175::v176::v177::v178::v179::v180::v181::v182::v183::v184::v185::v186::v187::v188::v189::v190::v191::v192::v193::v194::v195::v196::v197::v198::v199::v200::v201::v202::v203::v204::v205::v206::v207::v208::v209::v210::v211::v212::v213::v214::v215::v216::v217::v218::v219::v220::v221::v222::v223::v224::v225::v226::v227::v228::v229::v230::v231::v232::v233::v234::v235::v236::v237::v238::v239::v240::v241::u242::u243::u244::u245::u246::u247::u248::u249::u250::u251::u252::u253::u254::u255::u256::u257::u258::u259::u260::u261::u262::u263::[]),[]⟩ w')) :
  Code.wp Tryz.prog (Code.loop edBody) Q0 ⟨List.toArray (u0::.slice ax na cx::.slice ay nb cy::.pointer (some ⟨mb,0,none⟩)::u4::u5::u6::u7::u8::.slice (some ⟨g,0,none⟩) n1 n1::u10::u11::u12::.int .i64 (k:Int)::.int .i64 (i:Int)::.int .i64 (j:Int)::.string W::.int .i64 0::u18::u19::u20::u21::u22::u23::u24::u25::u26::u27::u28::u29::u30::u31::u32::u33::u34::u35::u36::u37::u38::u39::u40::u41::u42::u43::u44::u45::u46::u47::u48::u49::u50::u51::u52::u53::u54::u55::u56::u57::u58::u59::u60::u61::u62::u63::u64::u65::u66::u67::u68::u69::u70::u71::u72::u73::u74::u75::u76::u77::u78::u79::u80::u81::u82::u83::u84::u85::u86::u87::u88::u89::u90::u91::u92::u93::u94::u95::u96::u97::u98::u99::u100::u101::u102::u103::u104::u105::u106::u107::u108::u109::u110::u111::u112::u113::u114::u115::u116::u117::u118::u119::u120::u121::u122::u123::u124::u125::u126::u127::u128::u129::u130::u131::u132::u133::u134::u135::u136::u137::u138::u139::u140::u141::u142::u143::u144::u145::u146::u147::u148::u149::u150::u151::u152::u153::u154::u155::u156::u157::u158::u159::u160::u161::u162::u163::u164::u165::u166::u167::u168::u169::u170::u171::u172::u173::u174::u175::u176::u177::u178::u179::u180::u181::u182::u183::u184::u185::u186::u187::u188::u189::u190::u191::u192::u193::u194::u195::u196::u197::u198::u199::u200::u201::u202::u203::u204::u205::u206::u207::u208::u209::u210::u211::u212::u213::u214::u215::u216::u217::u218::u219::u220::u221::u222::u223::u224::u225::u226::u227::u228::u229::u230::u231::u232::u233::u234::u235::u236::u237::u238::u239::u240::u241::u242::u243::u244::u245::u246::u247::u248::u249::u250::u251::u252::u253::u254::u255::u256::u257::u258::u259::u260::u261::u262::u263::[]),[]⟩ wr:=by
 have h1b:n1≤7:=by have:=HN1.out;omega
 have h2b:n2≤201:=by have:=HN2.out;omega
 have h3b:n3≤201:=by have:=HN3.out;omega
 have hkz:(k:Int)≤(mn:Int):=by have:=HN1.out;omega
 have hiz:(i:Int)≤(na:Int):=by have:=HN2.out;omega
 have hjz:(j:Int)≤(nb:Int):=by have:=HN3.out;omega
 conv=>arg 2;arg 1;whnf
 go_loopw [17] (fun v17 wr=>∃ e:Nat,e≤M.n∧v17=.int .i64 (e:Int)∧(k=mn→e=0)∧∃ X,RI X∧(deI X,0)=edFold P (k,i,j) e zc∧X k i j=W∧RcI w wr mb g n1 n2 n3 M (.slice a M.n cap) r s c X) (fun v17 _=>M.n - (intOf v17).toNat)
 case atStart=>exact ⟨0,Nat.zero_le _,rfl,fun _=>rfl,X1,HX1c.out,HCP.out,HXW0.out,HRI1.out⟩
 case round =>
  obtain ⟨e,he,rfl,hke,X2,hx1,hx2,hxw,hri⟩:=hrel
  clear HRI1 HX1c HCP HXW0
  have HX1:=Lib.hid hx1;clear hx1
  have HX2:=Lib.hid hx2;clear hx2
  have HXW:=Lib.hid hxw;clear hxw
  have HRI:=Lib.hid hri;clear hri
  have HKE:=Lib.hid hke;clear hke
  have m0:=HRI.out.bm.c0
  have m1:=HRI.out.bm.c1
  rw [HMN.out] at m1
  by_cases hkm:(k:Int) < (mn:Int)
  ·by_cases het:e < M.n
   ·have hez:(e:Int) < (M.n:Int):=by omega
    have hez0:(0:Int)≤(e:Int):=by omega
    obtain rfl:=HAE.out (by omega)
    have hbb:=(HBE.out (by omega)).1
    obtain ⟨k1,k2,k3,k4,k5⟩:=HROW.out e het
    have q0:=(HRI.out.be.cell (p:=⟨be,oe+e*3,none⟩) hbb).trans k1
    have q1:=(HRI.out.be.cell (p:=⟨be,oe+e*3+1,none⟩) hbb).trans k2
    have q2:=(HRI.out.be.cell (p:=⟨be,oe+e*3+2,none⟩) hbb).trans k3
    clear k1 k2 k3
    obtain ⟨nf,hnf⟩:∃ nf,nf=(M.e e).nf:=⟨_,rfl⟩
    obtain ⟨nt,hnt⟩:∃ nt,nt=(M.e e).nt:=⟨_,rfl⟩
    obtain ⟨df,hdf⟩:∃ df,df=(M.e e).f:=⟨_,rfl⟩
    obtain ⟨dt,hdt⟩:∃ dt,dt=(M.e e).t:=⟨_,rfl⟩
    obtain ⟨wt,hwt⟩:∃ wt,wt=(M.e e).w:=⟨_,rfl⟩
    have hok:=HV.out.ok e het
    have hnf6:nf≤6:=by rw [hnf];exact hok.f6
    have hnt6:nt≤6:=by rw [hnt];exact hok.t6
    have hprs:prs wt=some (qv wt):=by rw [hwt];exact hok.q
    have hsmw:smS wt:=by rw [hwt];have:=HSZ.out.w e;unfold smS;omega
    rw [← hnf] at q0 k4
    rw [← hnt] at q1 k5
    rw [← hwt] at q2
    rw [← hdf] at k4
    rw [← hdt] at k5
    have hcan:canB P (k,i,j) e=(bgI na x i nf df && bgI nb y j nt dt):=by rw [canB_bgI,HP.out,hnf,hnt,hdf,hdt]
    have hto:toP P (k,i,j) e=(k+1,i+nf,j+nt):=by unfold toP;rw [HP.out,hnf,hnt]
    have hwe:(P.M.e e).w=wt:=by rw [HP.out,hwt]
    have hnx:edFold P (k,i,j) (e+1) zc=if canB P (k,i,j) e=true then reaC (edFold P (k,i,j) e zc).1 (edFold P (k,i,j) e zc).2 (k,i,j) (toP P (k,i,j) e) (P.M.e e).w else edFold P (k,i,j) e zc:=rfl
    rw [hcan,hto,hwe,← HX2.out] at hnx
    clear hnf hnt hdf hdt hwt hok hcan hto hwe
    have HNXE:=Lib.hid hnx;clear hnx
    have HPRS:=Lib.hid hprs;clear hprs
    have HSMT:=Lib.hid hsmw;clear hsmw
    have HK4:=Lib.hid k4;clear k4
    have HK5:=Lib.hid k5;clear k5
    obtain ⟨w8,hw8⟩:∃ w8,w8=wr.alloc (.cells #[.slice (EA e) nf (EC e),.slice (EA' e) nt (EC' e),.string wt] 50):=⟨_,rfl⟩
    obtain ⟨eb,heb⟩:∃ eb,eb=wr.heap.size:=⟨_,rfl⟩
    have hf8:Fr (fun _=>False) wr w8:=by rw [hw8];exact Fr.alloc _ _
    have heb8:w8.heap[eb]?=some (.cells #[.slice (EA e) nf (EC e),.slice (EA' e) nt (EC' e),.string wt] 50 (0,0)):=by rw [hw8,heb];exact heap_alloc_new wr _
    have hri8:=HRI.out.new hf8
    have HBG1:=Lib.hid (rbegins_any (i:=i) w8 (HX.out.kept (gb_below hri8.be none)) (HK4.out.kept (gb_below hri8.be none)) hna2 hnf6 (by have:=HN2.out;omega))
    have e0:=cell_of heb8 0 rfl
    have HEB8:=Lib.hid heb8;clear heb8
    have HRI8:=Lib.hid hri8;clear hri8
    have HF8:=Lib.hid hf8;clear hf8
    go_wp2_with fail
    rw [← hw8,← heb]
    clear hw8 heb q0 q1 q2 m0 m1
    refine HBG1.out.mono ?_
    rintro rr w9 ⟨rfl,hb9⟩
    have hf9:Fr (fun _=>False) w8 w9:=Fr.of_below hb9
    have heb9:=(hf9.block eb (lt_of_block HEB8.out) (fun e=>e)).trans HEB8.out
    have HRI9:=Lib.hid (HRI8.out.new hf9)
    clear e0 hb9 HBG1
    cases hb1:bgI na x i nf df
    ·have hnx2:=HNXE.out
     rw [hb1,if_neg (by simp)] at hnx2
     have HN:=Lib.hid hnx2;clear hnx2 hb1 heb9 hf9
     go_wp2_with fail
     go_roundw
     case rel=>exact ⟨e+1,by omega,by go_num,fun h=>by omega,X2,HX1.out,HN.out.symm,HXW.out,HRI9.out⟩
     case measure=>simp [intOf];omega
    ·have HBI1:=Lib.hid hb1
     have e1:=cell_of heb9 1 rfl
     have HEB9:=Lib.hid heb9;clear heb9
     have HBG2:=Lib.hid (rbegins_any (i:=j) w9 (HY.out.kept (gb_below HRI9.out.be none)) (HK5.out.kept (gb_below HRI9.out.be none)) hnb2 hnt6 (by have:=HN3.out;omega))
     clear hf9
     go_wp2_with fail
     refine HBG2.out.mono ?_
     rintro rr w10 ⟨rfl,hb10⟩
     have hf10:Fr (fun _=>False) w9 w10:=Fr.of_below hb10
     have heb10:=(hf10.block eb (lt_of_block HEB9.out) (fun e=>e)).trans HEB9.out
     have HRI10:=Lib.hid (HRI9.out.new hf10)
     clear e1 hb10 HBG2
     cases hb2:bgI nb y j nt dt
     ·have hnx2:=HNXE.out
      rw [HBI1.out,hb2,if_neg (by simp)] at hnx2
      have HN:=Lib.hid hnx2;clear hnx2 hb2 heb10 hf10 hb1
      go_wp2_with fail
      go_roundw
      case rel=>exact ⟨e+1,by omega,by go_num,fun h=>by omega,X2,HX1.out,HN.out.symm,HXW.out,HRI10.out⟩
      case measure=>simp [intOf];omega
     ·have hnx2:=HNXE.out
      rw [HBI1.out,hb2,if_pos (by rfl)] at hnx2
      have HN:=Lib.hid hnx2;clear hnx2
      have hin:i+nf < n2:=by have:=HBI1.out;unfold bgI at this;simp at this;have:=HN2.out;omega
      have hjn:j+nt < n3:=by unfold bgI at hb2;simp at hb2;have:=HN3.out;omega
      have hkn:k+1 < n1:=by have:=HN1.out;omega
      have e2:=cell_of heb10 2 rfl
      have HEB10:=Lib.hid heb10;clear heb10 hf10
      have hrea:=HX1.out.rea (e:=0) (p:=(k,i,j)) (q:=(k+1,i+nf,j+nt)) (d:=qv wt) (wt:=wt) (by show X2 k i j≠infS;rw [HXW.out];exact HWN.out) HPRS.out
      rw [show X2 (k,i,j).1 (k,i,j).2.1 (k,i,j).2.2=W from HXW.out] at hrea
      have HREA:=Lib.hid hrea;clear hrea
      have HAD:=Lib.hid (sadd_any W wt w10 HSMW.out HSMT.out)
      clear hb1 hb2
      go_wp2_with fail
      refine HAD.out.mono ?_
      rintro rr w11 ⟨rfl,hb11⟩
      have hf11:Fr (fun _=>False) w10 w11:=Fr.of_below hb11
      have heb11:=(hf11.block eb (lt_of_block HEB10.out) (fun e=>e)).trans HEB10.out
      have HRI11:=Lib.hid (HRI10.out.new hf11)
      clear e2 hb11 hf11 HAD
      obtain ⟨ad,had⟩:∃ ad,ad=qaddF W wt:=⟨_,rfl⟩
      rw [← had] at HREA
      rw [← had]
      have hsad:smS ad.1:=by rw [had];exact qaddF_sm _ _
      have HSAD:=Lib.hid hsad;clear hsad had
      rcases HREA.out with ⟨ha2,hr,hri2⟩ | ⟨ha,hr⟩
      ·have hez2:(ad.2:Int)=0:=by omega
       have HA2:=Lib.hid ha2;clear ha2
       have HR:=Lib.hid hr;clear hr
       have HRI2:=Lib.hid hri2;clear hri2
       have e0:=cell_of heb11 0 rfl
       have e1:=cell_of heb11 1 rfl
       clear heb11
       have hwi:IntKind.i64.wrap ((i:Int)+(nf:Int))=(i:Int)+(nf:Int):=by rw [IntKind.wrap_i64];omega
       have hwj:IntKind.i64.wrap ((j:Int)+(nt:Int))=(j:Int)+(nt:Int):=by rw [IntKind.wrap_i64];omega
       have hwk:IntKind.i64.wrap ((k:Int)+1)=(k:Int)+1:=by rw [IntKind.wrap_i64];omega
       have hin0:(0:Int)≤(i:Int)+(nf:Int):=by omega
       have hjn0:(0:Int)≤(j:Int)+(nt:Int):=by omega
       have hkn0:(0:Int)≤(k:Int)+1:=by omega
       have hin1:(i:Int)+(nf:Int) < (n2:Int):=by omega
       have hjn1:(j:Int)+(nt:Int) < (n3:Int):=by omega
       have hkn1:(k:Int)+1 < (n1:Int):=by omega
       have hti:((i:Int)+(nf:Int)).toNat=i+nf:=by omega
       have htj:((j:Int)+(nt:Int)).toNat=j+nt:=by omega
       have htk:((k:Int)+1).toNat=k+1:=by omega
       go_wp2_with fail
       go_quiet (fail)
       go_wp2_with fail
       have hf12:Fr (fun _=>False) w11 (w11.drewN nq):=Fr.of_below (below_drewN (Below.refl _ w11) nq)
       have hri12:=HRI11.out.new hf12
       obtain ⟨w12,hw12⟩:∃ w12,w12=w11.drewN nq:=⟨_,rfl⟩
       rw [← hw12] at hri12 ⊢
       clear e0 e1 hw12 hf12
       have d1:=hri12.cv.c1 hkn
       have d2:=hri12.cv.c2 hkn hin
       have d3:=hri12.cv.c3 hkn hin hjn
       have f3:=hri12.cv.f3 hkn hin (j+nt)
       have hslt:=(hri12.cv.slt hkn hin).2
       obtain ⟨rk2,hrk2⟩:∃ z,z=r (k+1):=⟨_,rfl⟩
       obtain ⟨sk2,hsk2⟩:∃ z,z=s (k+1) (i+nf):=⟨_,rfl⟩
       obtain ⟨ck2,hck2⟩:∃ z,z=c (k+1) (i+nf):=⟨_,rfl⟩
       obtain ⟨xo,hxo⟩:∃ z,z=X2 (k+1) (i+nf) (j+nt):=⟨_,rfl⟩
       rw [← hrk2] at d1 d2
       rw [← hsk2] at d2 d3 f3 hslt
       rw [← hck2] at d2
       rw [← hxo] at d3
       have hsxo:smS xo:=by rw [hxo];exact hri12.cv.sm _ _ _
       have hset:∀ W',Fr (fun _=>False) w12 W'→RcI w (W'.setCell ⟨sk2,j+nt,none⟩ (.string (bttC xo ad.1))) mb g n1 n2 n3 M (.slice (some ⟨be,oe,none⟩) M.n cap) r s c (updX X2 (k+1) (i+nf) (j+nt) (bttC xo ad.1))∧(W'.cell? ⟨g,k+1,none⟩=some (.slice (some ⟨rk2,0,none⟩) n2 n2)∧W'.cell? ⟨rk2,i+nf,none⟩=some (.slice (some ⟨sk2,0,none⟩) n3 ck2)∧W'.cell? ⟨sk2,j+nt,none⟩=some (.string xo))∧W'.frozen? ⟨sk2,j+nt,none⟩=false:=fun W' hf=>by
        have h1:=hri12.new hf
        have h2:=h1.set (v:=bttC xo ad.1) hkn hin hjn (btt_sm hsxo HSAD.out)
        rw [← hsk2] at h2
        have h3:=h1.cv.f3 hkn hin (j+nt)
        rw [← hsk2] at h3
        exact ⟨h2,⟨hf.cell d1 (fun e=>e),hf.cell d2 (fun e=>e),hf.cell d3 (fun e=>e)⟩,h3⟩
       have hx3:updX X2 (k+1) (i+nf) (j+nt) (bttC xo ad.1) k i j=W:=by unfold updX;rw [if_neg (fun h=>by omega)];exact HXW.out
       have hst3:(deI (updX X2 (k+1) (i+nf) (j+nt) (bttC xo ad.1)),0)=edFold P (k,i,j) (e+1) zc:=by rw [hxo];exact (HN.out.trans HR.out).symm
       have hri3:RI (updX X2 (k+1) (i+nf) (j+nt) (bttC xo ad.1)):=by rw [hxo];exact HRI2.out
       have HSET:=Lib.hid hset;clear hset
       have HX3:=Lib.hid hx3;clear hx3
       have HST3:=Lib.hid hst3;clear hst3
       have HRI3:=Lib.hid hri3;clear hri3
       have HB12:=Lib.hid (rbetter_any xo ad.1)
       have HSXO:=Lib.hid hsxo;clear hsxo hrk2 hsk2 hck2 hxo
       have hS0:w12.drew.cell? ⟨g,k+1,none⟩=some (.slice (some ⟨rk2,0,none⟩) n2 n2)∧w12.drew.cell? ⟨rk2,i+nf,none⟩=some (.slice (some ⟨sk2,0,none⟩) n3 ck2)∧w12.drew.cell? ⟨sk2,j+nt,none⟩=some (.string xo):=⟨d1,d2,d3⟩
       clear hri12
       refine region_heldK (fun wk=>wk.cell? ⟨g,k+1,none⟩=some (.slice (some ⟨rk2,0,none⟩) n2 n2)∧wk.cell? ⟨rk2,i+nf,none⟩=some (.slice (some ⟨sk2,0,none⟩) n3 ck2)∧wk.cell? ⟨sk2,j+nt,none⟩=some (.string xo)) 23 (by kernel_rfl) ?_
       refine AnyK.tk (i:=0) (v:=?vu0) rfl (by kernel_rfl) hS0 (Or.inl ⟨by kernel_rfl,?hyu0⟩) ?restu0 (hQ:=fun _ _ _ h=>HPAN.out _ _ _ _ _ h)
       case hyu0=>rintro wk ⟨s1,s2,s3⟩;go_simp;try with_reducible rfl
       refine AnyK.tk (i:=1) (v:=?vu1) rfl (by kernel_rfl) hS0 (Or.inl ⟨by kernel_rfl,?hyu1⟩) ?restu1 (hQ:=fun _ _ _ h=>HPAN.out _ _ _ _ _ h)
       case hyu1=>rintro wk ⟨s1,s2,s3⟩;go_simp;try with_reducible rfl
       refine AnyK.tk (i:=2) (v:=?vu2) rfl (by kernel_rfl) hS0 (Or.inl ⟨by kernel_rfl,?hyu2⟩) ?restu2 (hQ:=fun _ _ _ h=>HPAN.out _ _ _ _ _ h)
       case hyu2=>rintro wk ⟨s1,s2,s3⟩;go_simp;try with_reducible rfl
       refine AnyK.tk (i:=3) (v:=?vu3) rfl (by kernel_rfl) hS0 (Or.inl ⟨by kernel_rfl,?hyu3⟩) ?restu3 (hQ:=fun _ _ _ h=>HPAN.out _ _ _ _ _ h)
       case hyu3=>rintro wk ⟨s1,s2,s3⟩;go_simp;try with_reducible rfl
       refine AnyK.tk (i:=4) (v:=?vu4) rfl (by kernel_rfl) hS0 (Or.inl ⟨by kernel_rfl,?hyu4⟩) ?restu4 (hQ:=fun _ _ _ h=>HPAN.out _ _ _ _ _ h)
       case hyu4=>rintro wk ⟨s1,s2,s3⟩;go_simp;try with_reducible rfl
       refine AnyK.tk (i:=5) (v:=?vu5) rfl (by kernel_rfl) hS0 (Or.inl ⟨by kernel_rfl,?hyu5⟩) ?restu5 (hQ:=fun _ _ _ h=>HPAN.out _ _ _ _ _ h)
       case hyu5=>rintro wk ⟨s1,s2,s3⟩;go_simp;try with_reducible rfl
       refine AnyK.tk (i:=6) (v:=?vu6) rfl (by kernel_rfl) hS0 (Or.inl ⟨by kernel_rfl,?hyu6⟩) ?restu6 (hQ:=fun _ _ _ h=>HPAN.out _ _ _ _ _ h)
       case hyu6=>rintro wk ⟨s1,s2,s3⟩;go_simp;try with_reducible rfl
       refine AnyK.tk (i:=7) (v:=?vu7) rfl (by kernel_rfl) hS0 (Or.inl ⟨by kernel_rfl,?hyu7⟩) ?restu7 (hQ:=fun _ _ _ h=>HPAN.out _ _ _ _ _ h)
       case hyu7=>rintro wk ⟨s1,s2,s3⟩;go_simp;try with_reducible rfl
       refine AnyK.tk (i:=8) (v:=?vu8) rfl (by kernel_rfl) hS0 (Or.inl ⟨by kernel_rfl,?hyu8⟩) ?restu8 (hQ:=fun _ _ _ h=>HPAN.out _ _ _ _ _ h)
       case hyu8=>rintro wk ⟨s1,s2,s3⟩;go_simp;try with_reducible rfl
       refine AnyK.tk (i:=9) (v:=?vu9) rfl (by kernel_rfl) hS0 (Or.inl ⟨by kernel_rfl,?hyu9⟩) ?restu9 (hQ:=fun _ _ _ h=>HPAN.out _ _ _ _ _ h)
       case hyu9=>rintro wk ⟨s1,s2,s3⟩;go_simp;try with_reducible rfl
       refine AnyK.tk (i:=10) (v:=?vu10) rfl (by kernel_rfl) hS0 (Or.inl ⟨by kernel_rfl,?hyu10⟩) ?restu10 (hQ:=fun _ _ _ h=>HPAN.out _ _ _ _ _ h)
       case hyu10=>rintro wk ⟨s1,s2,s3⟩;go_simp;try with_reducible rfl
       refine AnyK.tk (i:=11) (v:=?vu11) rfl (by kernel_rfl) hS0 (Or.inl ⟨by kernel_rfl,?hyu11⟩) ?restu11 (hQ:=fun _ _ _ h=>HPAN.out _ _ _ _ _ h)
       case hyu11=>rintro wk ⟨s1,s2,s3⟩;go_simp;try with_reducible rfl
       refine AnyK.tk (i:=12) (v:=?vu12) rfl (by kernel_rfl) hS0 (Or.inl ⟨by kernel_rfl,?hyu12⟩) ?restu12 (hQ:=fun _ _ _ h=>HPAN.out _ _ _ _ _ h)
       case hyu12=>rintro wk ⟨s1,s2,s3⟩;go_simp;try with_reducible rfl
       refine AnyK.tk (i:=13) (v:=?vu13) rfl (by kernel_rfl) hS0 (Or.inl ⟨by kernel_rfl,?hyu13⟩) ?restu13 (hQ:=fun _ _ _ h=>HPAN.out _ _ _ _ _ h)
       case hyu13=>rintro wk ⟨s1,s2,s3⟩;go_simp;try with_reducible rfl
       refine AnyK.tk (i:=14) (v:=?vu14) rfl (by kernel_rfl) hS0 (Or.inl ⟨by kernel_rfl,?hyu14⟩) ?restu14 (hQ:=fun _ _ _ h=>HPAN.out _ _ _ _ _ h)
       case hyu14=>rintro wk ⟨s1,s2,s3⟩;go_simp;try with_reducible rfl
       refine AnyK.tk (i:=15) (v:=?vu15) rfl (by kernel_rfl) hS0 (Or.inl ⟨by kernel_rfl,?hyu15⟩) ?restu15 (hQ:=fun _ _ _ h=>HPAN.out _ _ _ _ _ h)
       case hyu15=>rintro wk ⟨s1,s2,s3⟩;go_simp;try with_reducible rfl
       refine AnyK.tk (i:=16) (v:=?vu16) rfl (by kernel_rfl) hS0 (Or.inl ⟨by kernel_rfl,?hyu16⟩) ?restu16 (hQ:=fun _ _ _ h=>HPAN.out _ _ _ _ _ h)
       case hyu16=>rintro wk ⟨s1,s2,s3⟩;go_simp;try with_reducible rfl
       refine AnyK.tk (i:=17) (v:=?vu17) rfl (by kernel_rfl) hS0 (Or.inl ⟨by kernel_rfl,?hyu17⟩) ?restu17 (hQ:=fun _ _ _ h=>HPAN.out _ _ _ _ _ h)
       case hyu17=>rintro wk ⟨s1,s2,s3⟩;go_simp;try with_reducible rfl
       refine AnyK.tk (i:=18) (v:=?vu18) rfl (by kernel_rfl) hS0 (Or.inl ⟨by kernel_rfl,?hyu18⟩) ?restu18 (hQ:=fun _ _ _ h=>HPAN.out _ _ _ _ _ h)
       case hyu18=>rintro wk ⟨s1,s2,s3⟩;go_simp;try with_reducible rfl
       refine AnyK.tk (i:=19) (v:=?vu19) rfl (by kernel_rfl) hS0 (Or.inl ⟨by kernel_rfl,?hyu19⟩) ?restu19 (hQ:=fun _ _ _ h=>HPAN.out _ _ _ _ _ h)
       case hyu19=>rintro wk ⟨s1,s2,s3⟩;go_simp;try with_reducible rfl
       refine AnyK.tk (i:=20) (v:=?vu20) rfl (by kernel_rfl) hS0 (Or.inl ⟨by kernel_rfl,?hyu20⟩) ?restu20 (hQ:=fun _ _ _ h=>HPAN.out _ _ _ _ _ h)
       case hyu20=>rintro wk ⟨s1,s2,s3⟩;go_simp;try with_reducible rfl
       try simp only [Act.put,List.setIfInBounds_toArray,List.set_cons_zero,List.set_cons_succ,List.getElem_toArray,List.getElem_cons_succ,List.getElem_cons_zero]
       clear hS0 d1 d2 d3 f3
       refine AnyK.one (i:=21) rfl (by kernel_rfl) (by rfl) (fun K hK=>?_)
       go_simp
       refine (HB12.out w12.drew HSXO.out HSAD.out).mono ?_
       rintro rr w13 ⟨rfl,hb13⟩
       obtain ⟨h1,h2,h3⟩:=HSET.out w13 ((Fr.refl (fun _=>False) w12).drew.trans (Fr.of_below hb13))
       have H1:=Lib.hid h1;clear h1 hb13 HSET
       refine hK.out _ _ (.inr h2) ?_
       clear hK K
       try simp only [Act.put,List.setIfInBounds_toArray,List.set_cons_zero,List.set_cons_succ,List.getElem_toArray,List.getElem_cons_succ,List.getElem_cons_zero]
       refine AnyK.tk (i:=22) (v:=?vv22) rfl (by kernel_rfl) h2 (Or.inl ⟨by kernel_rfl,?hyv22⟩) ?restv22 (hQ:=fun _ _ _ h=>HPAN.out _ _ _ _ _ h)
       case hyv22=>rintro wk ⟨s1,s2,s3⟩;go_simp;try with_reducible rfl
       try simp only [Act.put,List.setIfInBounds_toArray,List.set_cons_zero,List.set_cons_succ,List.getElem_toArray,List.getElem_cons_succ,List.getElem_cons_zero]
       have g0:=h2.2.2
       refine AnyK.one (i:=23) rfl (by kernel_rfl) (by rfl) (fun K hK=>?_)
       go_simp
       refine hK.out _ _ (.inl rfl) (AnyK.done (by kernel_rfl) ?_ _)
       clear hK K g0 h2 h3
       clear hwi hwj hwk hin0 hjn0 hkn0 hin1 hjn1 hkn1 hti htj htk
       go_wp2_with fail
       go_roundw
       case rel=>exact ⟨e+1,by omega,by go_num,fun h=>by omega,_,HRI3.out,HST3.out,HX3.out,H1.out⟩
       case measure=>simp [intOf];omega
      ·have ha2:ad.2=2:=by rw [ha]
       have hez2:¬ ((ad.2:Int)=0):=by omega
       have hcf:costC P=(⟨#[]⟩,2):=by
        refine HEND.out ?_
        have h1:(edFold P (k,i,j) (e+1) zc).2≠0:=by rw [HN.out,hr];simp
        rw [HZC.out] at h1
        exact ed_err (by rw [show ((deI X,0):ST).1 k i j=deI X k i j from rfl];exact fun h=>HWN.out (by rw [HW.out];exact (deI_nil HX1o.out).1 h)) (by rw [HP.out];show (k:Int)≠M.most;rw [HMN.out];omega) (by rw [HP.out];exact het) h1
       have HCF:=Lib.hid hcf;clear hcf hr ha heb11
       rw [ha2] at hez2 ⊢
       clear ha2
       go_wp2_with fail
       exact HRET.out _ _ _ _ _ _ _ _ _ _ _ _ _ _ _ _ _ _ _ _ _ _ _ _ _ _ _ _ _ _ _ _ _ _ _ _ _ _ _ _ _ _ _ _ _ _ _ _ _ _ _ _ _ _ _ _ _ _ _ _ _ _ _ _ _ _ _ _ _ _ _ _ _ _ _ _ _ _ _ _ _ _ HRI11.out.be HCF.out
   ·have hen:e=M.n:=by omega
    have hgt:¬ ((e:Int) < (M.n:Int)):=by omega
    have hx2:=HX2.out
    rw [hen] at hx2
    have hfin:stpC P (k,i,j) (deI X,0)=(deI X2,0):=by
     rw [hx2,HZC.out,stpC_go (P:=P) (fun h=>HWN.out (by rw [HW.out];exact (deI_nil HX1o.out).1 h)) (by rw [HP.out];show (k:Int)≠M.most;rw [HMN.out];omega),HP.out]
    have HFIN:=Lib.hid hfin;clear hfin hx2 hen
    go_wp2_with fail
    exact HEXIT.out _ _ _ _ _ _ _ _ _ _ _ _ _ _ _ _ _ _ _ _ _ _ _ _ _ _ _ _ _ _ _ _ _ _ _ _ _ _ _ _ _ _ _ _ _ _ _ _ _ _ _ _ _ _ _ _ _ _ _ _ _ _ _ _ _ _ _ _ _ _ _ _ _ _ _ _ _ _ _ _ _ _ _ _ _ HX1.out HFIN.out HRI.out
  ·have hkm':decide ((k:Int) < (mn:Int))=false:=by simp;omega
   have hkq:k=mn:=by have:=HN1.out;omega
   have he0:=HKE.out hkq
   have hx2:=HX2.out
   rw [he0] at hx2
   have hfin:stpC P (k,i,j) (deI X,0)=(deI X2,0):=by
    rw [hx2,HZC.out,stpC_most (P:=P) (fun h=>HWN.out (by rw [HW.out];exact (deI_nil HX1o.out).1 h)) (by rw [HP.out];show (k:Int)=M.most;rw [HMN.out,hkq])];rfl
   have HFIN:=Lib.hid hfin;clear hfin hx2 he0 hkq
   go_wp2_with fail
   exact HEXIT.out _ _ _ _ _ _ _ _ _ _ _ _ _ _ _ _ _ _ _ _ _ _ _ _ _ _ _ _ _ _ _ _ _ _ _ _ _ _ _ _ _ _ _ _ _ _ _ _ _ _ _ _ _ _ _ _ _ _ _ _ _ _ _ _ _ _ _ _ _ _ _ _ _ _ _ _ _ _ _ _ _ _ _ _ _ HX1.out HFIN.out HRI.out
end Go.Proofs.YtjekapjbigfkbaaGreatDoor
