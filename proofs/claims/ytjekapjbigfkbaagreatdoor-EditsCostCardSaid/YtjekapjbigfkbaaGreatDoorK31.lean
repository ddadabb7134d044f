/- Parts of a proof: EdRJ. -/
import Derived.Test.YtjekapjbigfkbaaGreatDoorK30
namespace Go.Proofs.YtjekapjbigfkbaaGreatDoor
open Go Go.RowKit Go.Deep
set_option maxRecDepth 100000
set_option linter.unusedSimpArgs false
noncomputable def jBody:Code:=loopOf (((Tryz.f18).body.bind (blkOf 10)).getD .skip)
set_option maxRecDepth 1000000 in
set_option maxHeartbeats 16000000 in
theorem jloop {M:EM} {na nb:Nat} {x y:Nat→Int} {P:EP} {w wr:World} {mb g n1 n2 n3 mn k i be oe cap cx cy bx ox by' oy:Nat} {a ax ay:Option Addr} {EA EA':Nat→Option Addr} {EC EC':Nat→Nat} {r:Nat→Nat} {s c:Nat→Nat→Nat} {X:XT} {z1 z2:ST} {Q0:Exit→Act→World→Prop} {u0 u4 u5 u6 u7 u10 u11 u12 u16 u17 u18 u19 u20 u21 u22 u23 u24 u25 u26 u27 u28 u29 u30 u31 u32 u33 u34 u35 u36 u37 u38 u39 u40 u41 u42 u43 u44 u45 u46 u47 u48 u49 u50 u51 u52 u53 u54 u55 u56 u57 u58 u59 u60 u61 u62 u63 u64 u65 u66 u67 u68 u69 u70 u71 u72 u73 u74 u75 u76 u77 u78 u79 u80 u81 u82 u83 u84 u85 u86 u87 u88 u89 u90 u91 u92 u93 u94 u95 u96 u97 u98 u99 u100 u101 u102 u103 u104 u105 u106 u107 u108 u109 u110 u111 u112 u113 u114 u115 u116 u117 u118 u119 u120 u121 u122 u123 u124 u125 u126 u127 u128 u129 u130 u131 u132 u133 u134 u135 u136 u137 u138 u139 u140 u141 u142 u143 u144 u145 u146 u147 u148 u149 u150 u151 u152 u153 u154 u155 u156 u157 u158 u159 u160 u161 u162 u163 u164 u165 u166 u167 u168 u169 u170 u171 u172 u173 u174 u175 u176 u177 u178 u179 u180 u181 u182 u183 u184 u185 u186 u187 u188 u189 u190 u191 u192 u193 u194 u195 u196 u197 u198 u199 u200 u201 u202 u203 u204 u205 u206 u207 u208 u209 u210 u211 u212 u213 u214 u215 u216 u217 u218 u219 u220 u221 u222 u223 u224 u225 u226 u227 u228 u229 u230 u231 u232 u233 u234 u235 u236 u237 u238 u239 u240 u241 u242 u243 u244 u245 u246 u247 u248 u249 u250 u251 u252 u253 u254 u255 u256 u257 u258 u259 u260 u261 u262 u263:Value}
  (HP:Hid (P=⟨M,na,x,nb,y⟩)) (HV:Hid (VE M)) (HSZ:Hid (ESz M)) (HMN:Hid (M.most=(mn:Int))) (HN1:Hid (n1=mn+1)) (HN2:Hid (n2=na+1)) (HN3:Hid (n3=nb+1))
  (HX:Hid (Si none w (.slice ax na cx) na x)) (HY:Hid (Si none w (.slice ay nb cy) nb y)) (HAE:Hid (0 < M.n→a=some ⟨be,oe,none⟩)) (HBE:Hid (0 < M.n→be < w.heap.size∧some be≠none))
  (HROW:Hid (∀ i,i < M.n→w.cell? ⟨be,oe+i*3,none⟩=some (.slice (EA i) (M.e i).nf (EC i))∧w.cell? ⟨be,oe+i*3+1,none⟩=some (.slice (EA' i) (M.e i).nt (EC' i))∧w.cell? ⟨be,oe+i*3+2,none⟩=some (.string (M.e i).w)∧Si none w (.slice (EA i) (M.e i).nf (EC i)) (M.e i).nf (M.e i).f∧Si none w (.slice (EA' i) (M.e i).nt (EC' i)) (M.e i).nt (M.e i).t))
  (hna2:na≤200) (hnb2:nb≤200) (hM4:M.n≤400) (hmn6:mn≤6) (hkt:k < n1) (hit:i < n2)
  (HAX:Hid (0 < na→ax=some ⟨bx,ox,none⟩)) (HXB:Hid (0 < na→bx < w.heap.size∧some bx≠none)) (HXC:Hid (∀ i,i < na→w.cell? ⟨bx,ox+i,none⟩=some (.int .i64 (x i))))
  (HAY:Hid (0 < nb→ay=some ⟨by',oy,none⟩)) (HYB:Hid (0 < nb→by' < w.heap.size∧some by'≠none)) (HYC:Hid (∀ i,i < nb→w.cell? ⟨by',oy+i,none⟩=some (.int .i64 (y i))))
  (HZ1:Hid (z1=tabP P k (X0,0))) (HZ2:Hid (z2=rowP P k i z1)) (HX1:Hid (RI X)) (HX2:Hid ((deI X,0)=z2)) (HRI:Hid (RcI w wr mb g n1 n2 n3 M (.slice a M.n cap) r s c X))
  (HPAN:Hid (∀ (e:List PanicEntry) (a:Act) (d:Option Tmp) (v:Value) (w':World),Q0 (.panic e) (a.put d v) w'→Q0 (.panic e) a w'))
  (HEXIT:Hid (∀ (v6 v7 v15 v16 v17 v18 v19 v20 v21 v22 v102 v103 v104 v105 v106 v107 v108 v109 v110 v111 v112 v113 v114 v115 v116 v117 v118 v119 v120 v121 v122 v123 v124 v125 v126 v127 v128 v129 v130 v131 v132 v133 v134 v135 v136 v137 v138 v139 v140 v141 v142 v143 v144 v145 v146 v147 v148 v149 v150 v151 v152 v153 v154 v155 v156 v157 v158 v159 v160 v161 v162 v163 v164 v165 v166 v167 v168 v169 v170 v171 v172 v173 v174 v175 v176 v177 v178 v179 v180 v181 v182 v183 v184 v185 v186 v187 v188 v189 v190 v191 v192 v193 v194 v195 v196 v197 v198 v199 v200 v201 v202 v203 v204 v205 v206 v207 v208 v209 v210 v211 v212 v213 v214 v215 v216 v217 v218 v219 v220 v221 v222 v223 v224 v225 v226 v227 v228 v229 v230 v231 v232 v233 v234 v235 v236 v237 v238 v239 v240 v241:Value) (w':World) (X2:XT),RI X2→(deI X2,0)=colP P k i (P.b+1) z2→RcI w w' mb g n1 n2 n3 M (.slice a M.n cap) r s c X2→Q0 (.exit 10) ⟨List.toArray (u0::.slice ax na cx::.slice ay nb cy::.pointer (some ⟨mb,0,none⟩)::u4::u5::v6::v7::.string infS::.slice (some ⟨g,0,none⟩) n1 n1::u10::u11::u12::.int .i64 (k:Int)::.int .i64 (i:Int)::v15::v16::v17::v18::v19::v20::v21::v22::u23::u24::u25::u26::u27::u28::u29::u30::u31::u32::u33::u34::u35::u36::u37::u38::u39::u40::u41::u42::u43::u44::u45::u46::u47::u48::u49::u50::u51::u52::u53::u54::u55::u56::u57::u58::u59::u60::u61::u62::u63::u64::u65::u66::u67::u68::u69::u70::u71::u72::u73::u74::u75::u76::u77::u78::u79::u80::u81::u82::u83::u84::u85::u86::u87::u88::u89::u90::u91::u92::u93::u94::u95::u96::u97::u98::u99::u100::u101::v102::v103::v104::v105::v106::v107::v108::v109::v110::v111::v112::v113::v114::v115::v116::v117::v118::v119::v120::v121::v122::v123::v124::v125::v126::v127::v128::v129::v130::v131::v132::v133::v134::v135::v136::v137::v138::v139::v140::v141::v142::v143::v144::v145::v146::v147::v148::v149::v150::v151::v152::v153::v154::v155::v156::v157::v158::v159::v160::v161::v162::v163::v164::v165::v166::v167::v168::v169::v170::v171::v172::v173::v174::v175::v176::v177::v178::v179::v180::v181::v182::v183::v184::v185::v186::v187::v188::v189::v190::v191::v192::v193::v194::v195::v196::v197::v198::v199::v200::v201::v202::v203::v204::v205::v206::v207::v208::v209::v210::v211::v212::v213::v214::v215::v216::v217::v218::v219::v220::v221::v222::v223::v224::v225::v226::v227::v228::v229::v230::v231::v232::v233::v234::v235::v236::v237::v238::v239::v240::v241::u242::u243::u244::u245::u246::u247::u248::u249::u250::u251::u252::u253::u254::u255::u256::u257::u258::u259::u260::u261::u262::u263::[]),[]⟩ w'))
  (HRET:Hid (∀ (v15 v16 v17 v18 v19 v20 v21 v22 v102 v103 v104 v105 v106 v107 v108 v109 v110 v111 v112 v113 v114 v115 v116 v117 v118 v119 v120 v121 v122 v123 v124 v125 v126 v127 v128 v129 v130 v131 v132 v133 v134 v135 v136 v137 v138 v139 v140 v141 v142 v143 v144 v145 v146 v147 v148 v149 v150 v151 v152 v153 v154 v155 v156 v157 v158 v159 v160 v161 v162 v163 v164 v165 v166 v167 v168 v169 v170 v171 v172 v173 v174 v175 v176 v177 v178 v179 v180 v181 v182 v183 v184 v185 v186 v187 v188 v189 v190 v191 v192 v193 v194 v195 v196 v197 v198 v199 v200 v201 v202 v203 v204 v205 v206 v207 v208 v209 v210 v211 v212 v213 v214 v215 v216 v217 v218 v219 v220 v221 v222 v223 v224 v225 v226 v227 v228 v229 v230 v231 v232 v233 v234 v235 v236 v237 v238 v239 v240 v241:Value) (w':World),Below w.heap.size w w'→costC P=(⟨#[]⟩,2)→Q0 .ret ⟨List.toArray (u0::.slice ax na cx::.slice ay nb cy::.pointer (some ⟨mb,0,none⟩)::u4::u5::.string ⟨#[]⟩::.int .i64 2::.string infS::.slice (some ⟨g,0,none⟩) n1 n1::u10::u11::u12::.int .i64 (k:Int)::.int .i64 (i:Int)::v15::v16::v17::v18::v19::v20::v21::v22::u23::u24::u25::u26::u27::u28::u29::u30::u31::u32::u33::u34::u35::u36::u37::u38::u39::u40::u41::u42::u43::u44::u45::u46::u47::u48::u49::u50::u51::u52::u53::u54::u55::u56::u57::u58::u59::u60::u61::u62::u63::u64::u65::u66::u67::u68::u69::u70::u71::u72::u73::u74::u75::u76::u77::u78::u79::u80::u81::u82::u83::u84::u85::u86::u87::u88::u89::u90::u91::u92::u93::u94::u95::u96::u97::u98::u99::u100::u101::v102::v103::v104::v105::v106::v107::v108::v109::v110::v111::v112::v113::v114::v115::v116::v117::v118::v119::v120::v121::v122::v123::v124::v125::v126::v127::v128::v129::v130::v131::v132::v133::v134::v135::v136::v137::v138::v139::v140::v141::v142::v143::v144::v145::v146::v147::v148::v149::v150::v151::v152::v153::v154::v155::v156::v157::v158::v159::v160::v161::v162::v163::v164::v165::v166::v167::v168::v169::v170::v171::v172::v173::v174::v175::v176::v177::v178::v179::v180::v181::v182::v183::v184::v185::v186::v187::v188::v189::v190::v191::v192::v193::v194::v195::v196::v197::v198::v199::v200::v201::v202::v203::v204::v205::v206::v207::v208::v209::v210::v211::v212::v213::v214::v215::v216::v217::v218::v219::v220::v221::v222::v223::v224::v225::v226::v227::v228::v229::v230::v231::v232::v233::v234::v235::v236::v237::v238::v239::v240::v241::u242::u243::u244::u245::u246::u247::u248::u249::u250::u251::u252::u253::u254::u255::u256::u257::u258::u259::u260::u261::u262::u263::[]),[]⟩ w')) :
  Code.wp Tryz.prog (Code.loop jBody) Q0 ⟨List.toArray (u0::.slice ax na cx::.slice ay nb cy::.pointer (some ⟨mb,0,none⟩)::u4::u5::u6::u7::.string infS::.slice (some ⟨g,0,none⟩) n1 n1::u10::u11::u12::.int .i64 (k:Int)::.int .i64 (i:Int)::.int .i64 0::u16::u17::u18::u19::u20::u21::u22::u23::u24::u25::u26::u27::u28::u29::u30::u31::u32::u33::u34::u35::u36::u37::u38::u39::u40::u41::u42::u43::u44::u45::u46::u47::u48::u49::u50::u51::u52::u53::u54::u55::u56::u57::u58::u59::u60::u61::u62::u63::u64::u65::u66::u67::u68::u69::u70::u71::u72::u73::u74::u75::u76::u77::u78::u79::u80::u81::u82::u83::u84::u85::u86::u87::u88::u89::u90::u91::u92::u93::u94::u95::u96::u97::u98::u99::u100::u101::u102::u103::u104::u105::u106::u107::u108::u109::u110::u111::u112::u113::u114::u115::u116::u117::u118::u119::u120::u121::u122::u123::u124::u125::u126::u127::u128::u129::u130::u131::u132::u133::u134::u135::u136::u137::u138::u139::u140::u141::u142::u143::u144::u145::u146::u147::u148::u149::u150::u151::u152::u153::u154::u155::u156::u157::u158::u159::u160::u161::u162::u163::u164::u165::u166::u167::u168::u169::u170::u171::u172::u173::u174::u175::u176::u177::u178::u179::u180::u181::u182::u183::u184::u185::u186::u187::u188::u189::u190::u191::u192::u193::u194::u195::u196::u197::u198::u199::u200::u201::u202::u203::u204::u205::u206::u207::u208::u209::u210::u211::u212::u213::u214::u215::u216::u217::u218::u219::u220::u221::u222::u223::u224::u225::u226::u227::u228::u229::u230::u231::u232::u233::u234::u235::u236::u237::u238::u239::u240::u241::u242::u243::u244::u245::u246::u247::u248::u249::u250::u251::u252::u253::u254::u255::u256::u257::u258::u259::u260::u261::u262::u263::[]),[]⟩ wr:=by
 have h1b:n1≤7:=by have:=HN1.out;omega
 have h2b:n2≤201:=by have:=HN2.out;omega
 have h3b:n3≤201:=by have:=HN3.out;omega
 have hkz:(k:Int)≤(mn:Int):=by have:=HN1.out;omega
 have hkz1:(k:Int) < (n1:Int):=by omega
 have hkz0:(0:Int)≤(k:Int):=by omega
 have hiz:(i:Int)≤(na:Int):=by have:=HN2.out;omega
 have hiz1:(i:Int) < (n2:Int):=by omega
 have hiz0:(0:Int)≤(i:Int):=by omega
 conv=>arg 2;arg 1;whnf
 go_loopw [15] (fun v15 wr=>∃ j:Nat,j≤n3∧v15=.int .i64 (j:Int)∧∃ X,RI X∧(deI X,0)=colP P k i j z2∧RcI w wr mb g n1 n2 n3 M (.slice a M.n cap) r s c X) (fun v15 _=>n3 - (intOf v15).toNat)
 case atStart=>exact ⟨0,Nat.zero_le _,rfl,X,HX1.out,HX2.out,HRI.out⟩
 case round =>
  obtain ⟨j,hj,rfl,X,hx1,hx2,hri⟩:=hrel
  clear HRI HX1 HX2
  have HX1:=Lib.hid hx1;clear hx1
  have HX2:=Lib.hid hx2;clear hx2
  have HRI:=Lib.hid hri;clear hri
  by_cases hjt:j < n3
  ·have hjz:(j:Int)≤(nb:Int):=by have:=HN3.out;omega
   have hjz1:(j:Int) < (n3:Int):=by omega
   have hjz0:(0:Int)≤(j:Int):=by omega
   have d1:=HRI.out.cv.c1 hkt
   have d2:=HRI.out.cv.c2 hkt hit
   have d3:=HRI.out.cv.c3 hkt hit hjt
   obtain ⟨rk,hrk⟩:∃ rk,rk=r k:=⟨_,rfl⟩
   obtain ⟨sk,hsk⟩:∃ sk,sk=s k i:=⟨_,rfl⟩
   obtain ⟨ck,hck⟩:∃ ck,ck=c k i:=⟨_,rfl⟩
   obtain ⟨W,hW⟩:∃ W,W=X k i j:=⟨_,rfl⟩
   rw [← hrk] at d1 d2
   rw [← hsk] at d2 d3
   rw [← hck] at d2
   rw [← hW] at d3
   have HW:=Lib.hid hW;clear hW
   have HRK:=Lib.hid hrk;clear hrk
   have HSK:=Lib.hid hsk;clear hsk
   have HCK:=Lib.hid hck;clear hck
   have hnx:colP P k i (j+1) z2=stpC P (k,i,j) (deI X,0):=by rw [HX2.out];rfl
   have HNX3:=Lib.hid hnx;clear hnx
   have hend:(stpC P (k,i,j) (deI X,0)).2≠0→costC P=(⟨#[]⟩,2):=fun h=>by
    have hP:=HP.out
    rw [← HNX3.out,HZ2.out,HZ1.out] at h
    exact err_end (by rw [hP];exact HV.out.m0) (by rw [hP];exact HV.out.ok) (by rw [hP];show (k:Int)≤M.most;rw [HMN.out];exact hkz) (by rw [hP];show i≤na;omega) (by rw [hP];show j≤nb;omega) h
   have HEND:=Lib.hid hend;clear hend
   have HSMW:=Lib.hid (show smS W by rw [HW.out];exact HRI.out.cv.sm _ _ _)
   cases hO:(W.toList == infS.toList)
   ·have hwn:W≠infS:=fun e=>by rw [e] at hO;simp at hO
    have HWN:=Lib.hid hwn;clear hwn
    go_wp2_with fail
    have HX1o:=Lib.hid HX1.out
    clear d1 d2 d3
    by_cases hin:i < na
    ·have hinz:(i:Int) < (na:Int):=by omega
     obtain rfl:=HAX.out (by omega)
     have x0:=(HRI.out.be.cell (p:=⟨bx,ox+i,none⟩) (HXB.out (by omega)).1).trans (HXC.out i hin)
     by_cases hjn:j < nb
     ·have hjnz:(j:Int) < (nb:Int):=by omega
      obtain rfl:=HAY.out (by omega)
      have y0:=(HRI.out.be.cell (p:=⟨by',oy+j,none⟩) (HYB.out (by omega)).1).trans (HYC.out j hjn)
      cases hxy:(x i == y j)
      ·skip
       have hcpn:(deI X,0)=cpC P (k,i,j) (deI X,0):=(cpC_no (by rw [HP.out];exact fun h=>by have h2:x i=y j:=h.2.2;rw [h2] at hxy;simp at hxy)).symm
       obtain ⟨zc,hzc⟩:∃ zc,zc=cpC P (k,i,j) (deI X,0):=⟨_,rfl⟩
       rw [← hzc] at hcpn
       have HZC:=Lib.hid hzc;clear hzc
       have HCPN:=Lib.hid hcpn;clear hcpn
       go_wp2_with fail
       go_quiet (fail)
       go_wp2_with fail
       clear x0 y0 hinz hjnz hin hjn
       have hcp:=HCPN.out
       have hX1r:=HX1.out
       have hXW:=HW.out.symm
       have hri1:=HRI.out.new (Fr.of_below (below_drewN (Below.refl _ wr) nq))
       clear HCPN HX1 HRI
       obtain ⟨X1,hX1⟩:∃ X1,X1=X:=⟨_,rfl⟩
       rw [← hX1] at hcp hX1r hXW hri1
       clear hX1
       have HXW0:=Lib.hid (show X1 k i j=W from hXW);clear hXW
       have HX1c:=Lib.hid hX1r;clear hX1r
       have HCP:=Lib.hid hcp;clear hcp
       have HRI1:=Lib.hid hri1;clear hri1
       go_wp2_with fail
       refine edloop (P:=P) (zc:=zc) (X:=X) (X1:=X1) HP HV HSZ HMN HN1 HN2 HN3 HX HY HAE HBE HROW hna2 hnb2 hM4 hmn6 hkt hit hjt HW HWN HSMW HX1o HZC HEND HXW0 HX1c HCP HRI1 (Lib.hid ?r1pan) (Lib.hid ?r1exit) (Lib.hid ?r1ret)
       case r1pan=>exact fun e a d v w h=>HPAN.out e a d v w h
       case r1exit =>
        intro v6 v7 v17 v18 v19 v20 v21 v22 v167 v168 v169 v170 v171 v172 v173 v174 v175 v176 v177 v178 v179 v180 v181 v182 v183 v184 v185 v186 v187 v188 v189 v190 v191 v192 v193 v194 v195 v196 v197 v198 v199 v200 v201 v202 v203 v204 v205 v206 v207 v208 v209 v210 v211 v212 v213 v214 v215 v216 v217 v218 v219 v220 v221 v222 v223 v224 v225 v226 v227 v228 v229 v230 v231 v232 v233 v234 v235 v236 v237 v238 v239 v240 v241 w2 X2 h1 h2 h3
        have HX2e:=Lib.hid h1;clear h1
        have HFIN:=Lib.hid (HNX3.out.trans h2);clear h2
        have HRI2:=Lib.hid h3;clear h3
        go_wp2_with fail
        go_roundw
        case rel=>exact ⟨j+1,by omega,by go_num,X2,HX2e.out,HFIN.out.symm,HRI2.out⟩
        case measure=>simp [intOf];omega
       case r1ret =>
        intro v17 v18 v19 v20 v21 v22 v167 v168 v169 v170 v171 v172 v173 v174 v175 v176 v177 v178 v179 v180 v181 v182 v183 v184 v185 v186 v187 v188 v189 v190 v191 v192 v193 v194 v195 v196 v197 v198 v199 v200 v201 v202 v203 v204 v205 v206 v207 v208 v209 v210 v211 v212 v213 v214 v215 v216 v217 v218 v219 v220 v221 v222 v223 v224 v225 v226 v227 v228 v229 v230 v231 v232 v233 v234 v235 v236 v237 v238 v239 v240 v241 w2 hb2 hcf
        exact HRET.out _ _ _ _ _ _ _ _ _ _ _ _ _ _ _ _ _ _ _ _ _ _ _ _ _ _ _ _ _ _ _ _ _ _ _ _ _ _ _ _ _ _ _ _ _ _ _ _ _ _ _ _ _ _ _ _ _ _ _ _ _ _ _ _ _ _ _ _ _ _ _ _ _ _ _ _ _ _ _ _ _ _ _ _ _ _ _ _ _ _ _ _ _ _ _ _ _ _ _ _ _ _ _ _ _ _ _ _ _ _ _ _ _ _ _ _ _ _ _ _ _ _ _ _ _ _ _ _ _ _ _ _ _ _ _ _ _ _ _ _ _ _ _ _ _ _ _ _ _ hb2 hcf
      ·have hi2:i+1 < n2:=by have:=HN2.out;omega
       have hj2:j+1 < n3:=by have:=HN3.out;omega
       have hcpy:=cpC_yes (P:=P) (p:=(k,i,j)) (s:=(deI X,0)) (by rw [HP.out];exact ⟨hin,hjn,eq_of_beq hxy⟩)
       have hrc:=HX1.out.copy (e:=0) (p:=(k,i,j)) (q:=(k,i+1,j+1)) (by show X k i j≠infS;rw [← HW.out];exact HWN.out)
       rw [show X (k,i,j).1 (k,i,j).2.1 (k,i,j).2.2=W from HW.out.symm] at hrc
       obtain ⟨hrc1,hrc2⟩:=hrc
       have e1:=HRI.out.cv.c1 hkt
       have e2:=HRI.out.cv.c2 hkt hi2
       have e3:=HRI.out.cv.c3 hkt hi2 hj2
       obtain ⟨rk2,hrk2⟩:∃ z,z=r k:=⟨_,rfl⟩
       obtain ⟨sk2,hsk2⟩:∃ z,z=s k (i+1):=⟨_,rfl⟩
       obtain ⟨ck2,hck2⟩:∃ z,z=c k (i+1):=⟨_,rfl⟩
       obtain ⟨xo,hxo⟩:∃ z,z=X k (i+1) (j+1):=⟨_,rfl⟩
       rw [← hrk2] at e1 e2
       rw [← hsk2] at e2 e3
       rw [← hck2] at e2
       rw [← hxo] at e3
       have hsxo:smS xo:=by rw [hxo];exact HRI.out.cv.sm _ _ _
       have hset:∀ W',Fr (fun _=>False) wr W'→RcI w (W'.setCell ⟨sk2,j+1,none⟩ (.string (bttC xo W))) mb g n1 n2 n3 M (.slice a M.n cap) r s c (updX X k (i+1) (j+1) (bttC xo W))∧(W'.cell? ⟨g,k,none⟩=some (.slice (some ⟨rk2,0,none⟩) n2 n2)∧W'.cell? ⟨rk2,i+1,none⟩=some (.slice (some ⟨sk2,0,none⟩) n3 ck2)∧W'.cell? ⟨sk2,j+1,none⟩=some (.string xo))∧W'.frozen? ⟨sk2,j+1,none⟩=false:=fun W' hf=>by
        have h1:=HRI.out.new hf
        have h2:=h1.set (v:=bttC xo W) hkt hi2 hj2 (btt_sm hsxo HSMW.out)
        rw [← hsk2] at h2
        have h3:=h1.cv.f3 hkt hi2 (j+1)
        rw [← hsk2] at h3
        exact ⟨h2,⟨hf.cell e1 (fun e=>e),hf.cell e2 (fun e=>e),hf.cell e3 (fun e=>e)⟩,h3⟩
       have HSET:=Lib.hid hset;clear hset
       obtain ⟨zc,hzc⟩:∃ zc,zc=cpC P (k,i,j) (deI X,0):=⟨_,rfl⟩
       have hcp0:(deI (updX X k (i+1) (j+1) (bttC xo W)),0)=zc:=by rw [hzc,hcpy,hxo];exact hrc1.symm
       have hX10:RI (updX X k (i+1) (j+1) (bttC xo W)):=by rw [hxo];exact hrc2
       have hXW0:updX X k (i+1) (j+1) (bttC xo W) k i j=W:=by unfold updX;rw [if_neg (fun h=>by omega)];exact HW.out.symm
       have HZC:=Lib.hid hzc;clear hzc hcpy hrc1 hrc2
       have HCP0:=Lib.hid hcp0;clear hcp0
       have HX10:=Lib.hid hX10;clear hX10
       have HXW0:=Lib.hid hXW0;clear hXW0
       have HSXO:=Lib.hid hsxo;clear hsxo hrk2 hsk2 hck2 hxo
       have hwi:IntKind.i64.wrap ((i:Int)+1)=(i:Int)+1:=by rw [IntKind.wrap_i64];omega
       have hwj:IntKind.i64.wrap ((j:Int)+1)=(j:Int)+1:=by rw [IntKind.wrap_i64];omega
       have hi20:(0:Int)≤(i:Int)+1:=by omega
       have hj20:(0:Int)≤(j:Int)+1:=by omega
       have hi21:(i:Int)+1 < (n2:Int):=by omega
       have hj21:(j:Int)+1 < (n3:Int):=by omega
       have hti:((i:Int)+1).toNat=i+1:=by omega
       have htj:((j:Int)+1).toNat=j+1:=by omega
       go_wp2_with fail
       go_quiet (fail)
       go_wp2_with fail
       clear x0 y0 hinz hjnz hin hjn
       obtain ⟨w7,hw7⟩:∃ w7,w7=wr.drewN nq:=⟨_,rfl⟩
       have hf7:Fr (fun _=>False) wr w7:=by rw [hw7];exact Fr.of_below (below_drewN (Below.refl _ wr) nq)
       rw [← hw7]
       have hS0:w7.drew.cell? ⟨g,k,none⟩=some (.slice (some ⟨rk2,0,none⟩) n2 n2)∧w7.drew.cell? ⟨rk2,i+1,none⟩=some (.slice (some ⟨sk2,0,none⟩) n3 ck2)∧w7.drew.cell? ⟨sk2,j+1,none⟩=some (.string xo):=⟨hf7.drew.cell e1 (fun e=>e),hf7.drew.cell e2 (fun e=>e),hf7.drew.cell e3 (fun e=>e)⟩
       clear e1 e2 e3 hw7
       refine region_heldK (fun wk=>wk.cell? ⟨g,k,none⟩=some (.slice (some ⟨rk2,0,none⟩) n2 n2)∧wk.cell? ⟨rk2,i+1,none⟩=some (.slice (some ⟨sk2,0,none⟩) n3 ck2)∧wk.cell? ⟨sk2,j+1,none⟩=some (.string xo)) 25 (by kernel_rfl) ?_
       refine AnyK.tk (i:=0) (v:=?vc0) rfl (by kernel_rfl) hS0 (Or.inl ⟨by kernel_rfl,?hyc0⟩) ?restc0 (hQ:=fun _ _ _ h=>HPAN.out _ _ _ _ _ h)
       case hyc0=>rintro wk ⟨s1,s2,s3⟩;go_simp;try with_reducible rfl
       refine AnyK.tk (i:=1) (v:=?vc1) rfl (by kernel_rfl) hS0 (Or.inl ⟨by kernel_rfl,?hyc1⟩) ?restc1 (hQ:=fun _ _ _ h=>HPAN.out _ _ _ _ _ h)
       case hyc1=>rintro wk ⟨s1,s2,s3⟩;go_simp;try with_reducible rfl
       refine AnyK.tk (i:=2) (v:=?vc2) rfl (by kernel_rfl) hS0 (Or.inl ⟨by kernel_rfl,?hyc2⟩) ?restc2 (hQ:=fun _ _ _ h=>HPAN.out _ _ _ _ _ h)
       case hyc2=>rintro wk ⟨s1,s2,s3⟩;go_simp;try with_reducible rfl
       refine AnyK.tk (i:=3) (v:=?vc3) rfl (by kernel_rfl) hS0 (Or.inl ⟨by kernel_rfl,?hyc3⟩) ?restc3 (hQ:=fun _ _ _ h=>HPAN.out _ _ _ _ _ h)
       case hyc3=>rintro wk ⟨s1,s2,s3⟩;go_simp;try with_reducible rfl
       refine AnyK.tk (i:=4) (v:=?vc4) rfl (by kernel_rfl) hS0 (Or.inl ⟨by kernel_rfl,?hyc4⟩) ?restc4 (hQ:=fun _ _ _ h=>HPAN.out _ _ _ _ _ h)
       case hyc4=>rintro wk ⟨s1,s2,s3⟩;go_simp;try with_reducible rfl
       refine AnyK.tk (i:=5) (v:=?vc5) rfl (by kernel_rfl) hS0 (Or.inl ⟨by kernel_rfl,?hyc5⟩) ?restc5 (hQ:=fun _ _ _ h=>HPAN.out _ _ _ _ _ h)
       case hyc5=>rintro wk ⟨s1,s2,s3⟩;go_simp;try with_reducible rfl
       refine AnyK.tk (i:=6) (v:=?vc6) rfl (by kernel_rfl) hS0 (Or.inl ⟨by kernel_rfl,?hyc6⟩) ?restc6 (hQ:=fun _ _ _ h=>HPAN.out _ _ _ _ _ h)
       case hyc6=>rintro wk ⟨s1,s2,s3⟩;go_simp;try with_reducible rfl
       refine AnyK.tk (i:=7) (v:=?vc7) rfl (by kernel_rfl) hS0 (Or.inl ⟨by kernel_rfl,?hyc7⟩) ?restc7 (hQ:=fun _ _ _ h=>HPAN.out _ _ _ _ _ h)
       case hyc7=>rintro wk ⟨s1,s2,s3⟩;go_simp;try with_reducible rfl
       refine AnyK.tk (i:=8) (v:=?vc8) rfl (by kernel_rfl) hS0 (Or.inl ⟨by kernel_rfl,?hyc8⟩) ?restc8 (hQ:=fun _ _ _ h=>HPAN.out _ _ _ _ _ h)
       case hyc8=>rintro wk ⟨s1,s2,s3⟩;go_simp;try with_reducible rfl
       refine AnyK.tk (i:=9) (v:=?vc9) rfl (by kernel_rfl) hS0 (Or.inl ⟨by kernel_rfl,?hyc9⟩) ?restc9 (hQ:=fun _ _ _ h=>HPAN.out _ _ _ _ _ h)
       case hyc9=>rintro wk ⟨s1,s2,s3⟩;go_simp;try with_reducible rfl
       refine AnyK.tk (i:=10) (v:=?vc10) rfl (by kernel_rfl) hS0 (Or.inl ⟨by kernel_rfl,?hyc10⟩) ?restc10 (hQ:=fun _ _ _ h=>HPAN.out _ _ _ _ _ h)
       case hyc10=>rintro wk ⟨s1,s2,s3⟩;go_simp;try with_reducible rfl
       refine AnyK.tk (i:=11) (v:=?vc11) rfl (by kernel_rfl) hS0 (Or.inl ⟨by kernel_rfl,?hyc11⟩) ?restc11 (hQ:=fun _ _ _ h=>HPAN.out _ _ _ _ _ h)
       case hyc11=>rintro wk ⟨s1,s2,s3⟩;go_simp;try with_reducible rfl
       refine AnyK.tk (i:=12) (v:=?vc12) rfl (by kernel_rfl) hS0 (Or.inl ⟨by kernel_rfl,?hyc12⟩) ?restc12 (hQ:=fun _ _ _ h=>HPAN.out _ _ _ _ _ h)
       case hyc12=>rintro wk ⟨s1,s2,s3⟩;go_simp;try with_reducible rfl
       refine AnyK.tk (i:=13) (v:=?vc13) rfl (by kernel_rfl) hS0 (Or.inl ⟨by kernel_rfl,?hyc13⟩) ?restc13 (hQ:=fun _ _ _ h=>HPAN.out _ _ _ _ _ h)
       case hyc13=>rintro wk ⟨s1,s2,s3⟩;go_simp;try with_reducible rfl
       refine AnyK.tk (i:=14) (v:=?vc14) rfl (by kernel_rfl) hS0 (Or.inl ⟨by kernel_rfl,?hyc14⟩) ?restc14 (hQ:=fun _ _ _ h=>HPAN.out _ _ _ _ _ h)
       case hyc14=>rintro wk ⟨s1,s2,s3⟩;go_simp;try with_reducible rfl
       refine AnyK.tk (i:=15) (v:=?vc15) rfl (by kernel_rfl) hS0 (Or.inl ⟨by kernel_rfl,?hyc15⟩) ?restc15 (hQ:=fun _ _ _ h=>HPAN.out _ _ _ _ _ h)
       case hyc15=>rintro wk ⟨s1,s2,s3⟩;go_simp;try with_reducible rfl
       refine AnyK.tk (i:=16) (v:=?vc16) rfl (by kernel_rfl) hS0 (Or.inl ⟨by kernel_rfl,?hyc16⟩) ?restc16 (hQ:=fun _ _ _ h=>HPAN.out _ _ _ _ _ h)
       case hyc16=>rintro wk ⟨s1,s2,s3⟩;go_simp;try with_reducible rfl
       refine AnyK.tk (i:=17) (v:=?vc17) rfl (by kernel_rfl) hS0 (Or.inl ⟨by kernel_rfl,?hyc17⟩) ?restc17 (hQ:=fun _ _ _ h=>HPAN.out _ _ _ _ _ h)
       case hyc17=>rintro wk ⟨s1,s2,s3⟩;go_simp;try with_reducible rfl
       refine AnyK.tk (i:=18) (v:=?vc18) rfl (by kernel_rfl) hS0 (Or.inl ⟨by kernel_rfl,?hyc18⟩) ?restc18 (hQ:=fun _ _ _ h=>HPAN.out _ _ _ _ _ h)
       case hyc18=>rintro wk ⟨s1,s2,s3⟩;go_simp;try with_reducible rfl
       refine AnyK.tk (i:=19) (v:=?vc19) rfl (by kernel_rfl) hS0 (Or.inl ⟨by kernel_rfl,?hyc19⟩) ?restc19 (hQ:=fun _ _ _ h=>HPAN.out _ _ _ _ _ h)
       case hyc19=>rintro wk ⟨s1,s2,s3⟩;go_simp;try with_reducible rfl
       refine AnyK.tk (i:=20) (v:=?vc20) rfl (by kernel_rfl) hS0 (Or.inl ⟨by kernel_rfl,?hyc20⟩) ?restc20 (hQ:=fun _ _ _ h=>HPAN.out _ _ _ _ _ h)
       case hyc20=>rintro wk ⟨s1,s2,s3⟩;go_simp;try with_reducible rfl
       refine AnyK.tk (i:=21) (v:=?vc21) rfl (by kernel_rfl) hS0 (Or.inl ⟨by kernel_rfl,?hyc21⟩) ?restc21 (hQ:=fun _ _ _ h=>HPAN.out _ _ _ _ _ h)
       case hyc21=>rintro wk ⟨s1,s2,s3⟩;go_simp;try with_reducible rfl
       refine AnyK.tk (i:=22) (v:=?vc22) rfl (by kernel_rfl) hS0 (Or.inl ⟨by kernel_rfl,?hyc22⟩) ?restc22 (hQ:=fun _ _ _ h=>HPAN.out _ _ _ _ _ h)
       case hyc22=>rintro wk ⟨s1,s2,s3⟩;go_simp;try with_reducible rfl
       try simp only [Act.put,List.setIfInBounds_toArray,List.set_cons_zero,List.set_cons_succ,List.getElem_toArray,List.getElem_cons_succ,List.getElem_cons_zero]
       clear hS0
       refine AnyK.one (i:=23) rfl (by kernel_rfl) (by rfl) (fun K hK=>?_)
       go_simp
       refine (rbetter_any xo W w7.drew HSXO.out HSMW.out).mono ?_
       rintro rr w13 ⟨rfl,hb13⟩
       obtain ⟨h1,h2,h3⟩:=HSET.out w13 (hf7.drew.trans (Fr.of_below hb13))
       have H1:=Lib.hid h1;clear h1 hb13 HSET
       refine hK.out _ _ (.inr h2) ?_
       clear hK K
       try simp only [Act.put,List.setIfInBounds_toArray,List.set_cons_zero,List.set_cons_succ,List.getElem_toArray,List.getElem_cons_succ,List.getElem_cons_zero]
       refine AnyK.tk (i:=24) (v:=?vd24) rfl (by kernel_rfl) h2 (Or.inl ⟨by kernel_rfl,?hyd24⟩) ?restd24 (hQ:=fun _ _ _ h=>HPAN.out _ _ _ _ _ h)
       case hyd24=>rintro wk ⟨s1,s2,s3⟩;go_simp;try with_reducible rfl
       try simp only [Act.put,List.setIfInBounds_toArray,List.set_cons_zero,List.set_cons_succ,List.getElem_toArray,List.getElem_cons_succ,List.getElem_cons_zero]
       have g0:=h2.2.2
       refine AnyK.one (i:=25) rfl (by kernel_rfl) (by rfl) (fun K hK=>?_)
       go_simp
       refine hK.out _ _ (.inl rfl) (AnyK.done (by kernel_rfl) ?_ _)
       clear hK K g0 h2 h3 hf7
       clear hwi hwj hi20 hj20 hi21 hj21 hti htj
       go_wp2_with fail
       have hcp:=HCP0.out
       have hX1r:=HX10.out
       have hXW:=HXW0.out
       have hri1:=H1.out
       clear HCP0 HX10 HXW0 H1 HX1 HRI
       obtain ⟨X1,hX1⟩:∃ X1,X1=updX X k (i+1) (j+1) (bttC xo W):=⟨_,rfl⟩
       rw [← hX1] at hcp hX1r hXW hri1
       clear hX1
       have HXW0:=Lib.hid (show X1 k i j=W from hXW);clear hXW
       have HX1c:=Lib.hid hX1r;clear hX1r
       have HCP:=Lib.hid hcp;clear hcp
       have HRI1:=Lib.hid hri1;clear hri1
       go_wp2_with fail
       refine edloop (P:=P) (zc:=zc) (X:=X) (X1:=X1) HP HV HSZ HMN HN1 HN2 HN3 HX HY HAE HBE HROW hna2 hnb2 hM4 hmn6 hkt hit hjt HW HWN HSMW HX1o HZC HEND HXW0 HX1c HCP HRI1 (Lib.hid ?r2pan) (Lib.hid ?r2exit) (Lib.hid ?r2ret)
       case r2pan=>exact fun e a d v w h=>HPAN.out e a d v w h
       case r2exit =>
        intro v6 v7 v17 v18 v19 v20 v21 v22 v167 v168 v169 v170 v171 v172 v173 v174 v175 v176 v177 v178 v179 v180 v181 v182 v183 v184 v185 v186 v187 v188 v189 v190 v191 v192 v193 v194 v195 v196 v197 v198 v199 v200 v201 v202 v203 v204 v205 v206 v207 v208 v209 v210 v211 v212 v213 v214 v215 v216 v217 v218 v219 v220 v221 v222 v223 v224 v225 v226 v227 v228 v229 v230 v231 v232 v233 v234 v235 v236 v237 v238 v239 v240 v241 w2 X2 h1 h2 h3
        have HX2e:=Lib.hid h1;clear h1
        have HFIN:=Lib.hid (HNX3.out.trans h2);clear h2
        have HRI2:=Lib.hid h3;clear h3
        go_wp2_with fail
        go_roundw
        case rel=>exact ⟨j+1,by omega,by go_num,X2,HX2e.out,HFIN.out.symm,HRI2.out⟩
        case measure=>simp [intOf];omega
       case r2ret =>
        intro v17 v18 v19 v20 v21 v22 v167 v168 v169 v170 v171 v172 v173 v174 v175 v176 v177 v178 v179 v180 v181 v182 v183 v184 v185 v186 v187 v188 v189 v190 v191 v192 v193 v194 v195 v196 v197 v198 v199 v200 v201 v202 v203 v204 v205 v206 v207 v208 v209 v210 v211 v212 v213 v214 v215 v216 v217 v218 v219 v220 v221 v222 v223 v224 v225 v226 v227 v228 v229 v230 v231 v232 v233 v234 v235 v236 v237 v238 v239 v240 v241 w2 hb2 hcf
        exact HRET.out _ _ _ _ _ _ _ _ _ _ _ _ _ _ _ _ _ _ _ _ _ _ _ _ _ _ _ _ _ _ _ _ _ _ _ _ _ _ _ _ _ _ _ _ _ _ _ _ _ _ _ _ _ _ _ _ _ _ _ _ _ _ _ _ _ _ _ _ _ _ _ _ _ _ _ _ _ _ _ _ _ _ _ _ _ _ _ _ _ _ _ _ _ _ _ _ _ _ _ _ _ _ _ _ _ _ _ _ _ _ _ _ _ _ _ _ _ _ _ _ _ _ _ _ _ _ _ _ _ _ _ _ _ _ _ _ _ _ _ _ _ _ _ _ _ _ _ _ _ hb2 hcf
     ·have hjnd:decide ((j:Int) < (nb:Int))=false:=by simp;omega
      have hcpn:(deI X,0)=cpC P (k,i,j) (deI X,0):=(cpC_no (by rw [HP.out];exact fun h=>hjn h.2.1)).symm
      obtain ⟨zc,hzc⟩:∃ zc,zc=cpC P (k,i,j) (deI X,0):=⟨_,rfl⟩
      rw [← hzc] at hcpn
      have HZC:=Lib.hid hzc;clear hzc
      have HCPN:=Lib.hid hcpn;clear hcpn
      go_wp2_with fail
      go_quiet (fail)
      go_wp2_with fail
      clear x0 hinz hin hjn hjnd
      have hcp:=HCPN.out
      have hX1r:=HX1.out
      have hXW:=HW.out.symm
      have hri1:=HRI.out.new (Fr.of_below (below_drewN (Below.refl _ wr) nq))
      clear HCPN HX1 HRI
      obtain ⟨X1,hX1⟩:∃ X1,X1=X:=⟨_,rfl⟩
      rw [← hX1] at hcp hX1r hXW hri1
      clear hX1
      have HXW0:=Lib.hid (show X1 k i j=W from hXW);clear hXW
      have HX1c:=Lib.hid hX1r;clear hX1r
      have HCP:=Lib.hid hcp;clear hcp
      have HRI1:=Lib.hid hri1;clear hri1
      go_wp2_with fail
      refine edloop (P:=P) (zc:=zc) (X:=X) (X1:=X1) HP HV HSZ HMN HN1 HN2 HN3 HX HY HAE HBE HROW hna2 hnb2 hM4 hmn6 hkt hit hjt HW HWN HSMW HX1o HZC HEND HXW0 HX1c HCP HRI1 (Lib.hid ?r3pan) (Lib.hid ?r3exit) (Lib.hid ?r3ret)
      case r3pan=>exact fun e a d v w h=>HPAN.out e a d v w h
      case r3exit =>
       intro v6 v7 v17 v18 v19 v20 v21 v22 v167 v168 v169 v170 v171 v172 v173 v174 v175 v176 v177 v178 v179 v180 v181 v182 v183 v184 v185 v186 v187 v188 v189 v190 v191 v192 v193 v194 v195 v196 v197 v198 v199 v200 v201 v202 v203 v204 v205 v206 v207 v208 v209 v210 v211 v212 v213 v214 v215 v216 v217 v218 v219 v220 v221 v222 v223 v224 v225 v226 v227 v228 v229 v230 v231 v232 v233 v234 v235 v236 v237 v238 v239 v240 v241 w2 X2 h1 h2 h3
       have HX2e:=Lib.hid h1;clear h1
       have HFIN:=Lib.hid (HNX3.out.trans h2);clear h2
       have HRI2:=Lib.hid h3;clear h3
       go_wp2_with fail
       go_roundw
       case rel=>exact ⟨j+1,by omega,by go_num,X2,HX2e.out,HFIN.out.symm,HRI2.out⟩
       case measure=>simp [intOf];omega
      case r3ret =>
       intro v17 v18 v19 v20 v21 v22 v167 v168 v169 v170 v171 v172 v173 v174 v175 v176 v177 v178 v179 v180 v181 v182 v183 v184 v185 v186 v187 v188 v189 v190 v191 v192 v193 v194 v195 v196 v197 v198 v199 v200 v201 v202 v203 v204 v205 v206 v207 v208 v209 v210 v211 v212 v213 v214 v215 v216 v217 v218 v219 v220 v221 v222 v223 v224 v225 v226 v227 v228 v229 v230 v231 v232 v233 v234 v235 v236 v237 v238 v239 v240 v241 w2 hb2 hcf
       exact HRET.out _ _ _ _ _ _ _ _ _ _ _ _ _ _ _ _ _ _ _ _ _ _ _ _ _ _ _ _ _ _ _ _ _ _ _ _ _ _ _ _ _ _ _ _ _ _ _ _ _ _ _ _ _ _ _ _ _ _ _ _ _ _ _ _ _ _ _ _ _ _ _ _ _ _ _ _ _ _ _ _ _ _ _ _ _ _ _ _ _ _ _ _ _ _ _ _ _ _ _ _ _ _ _ _ _ _ _ _ _ _ _ _ _ _ _ _ _ _ _ _ _ _ _ _ _ _ _ _ _ _ _ _ _ _ _ _ _ _ _ _ _ _ _ _ _ _ _ _ _ hb2 hcf
    ·have hind:decide ((i:Int) < (na:Int))=false:=by simp;omega
     have hcpn:(deI X,0)=cpC P (k,i,j) (deI X,0):=(cpC_no (by rw [HP.out];exact fun h=>hin h.1)).symm
     obtain ⟨zc,hzc⟩:∃ zc,zc=cpC P (k,i,j) (deI X,0):=⟨_,rfl⟩
     rw [← hzc] at hcpn
     have HZC:=Lib.hid hzc;clear hzc
     have HCPN:=Lib.hid hcpn;clear hcpn
     go_wp2_with fail
     go_quiet (fail)
     go_wp2_with fail
     clear hin hind
     have hcp:=HCPN.out
     have hX1r:=HX1.out
     have hXW:=HW.out.symm
     have hri1:=HRI.out.new (Fr.of_below (below_drewN (Below.refl _ wr) nq))
     clear HCPN HX1 HRI
     obtain ⟨X1,hX1⟩:∃ X1,X1=X:=⟨_,rfl⟩
     rw [← hX1] at hcp hX1r hXW hri1
     clear hX1
     have HXW0:=Lib.hid (show X1 k i j=W from hXW);clear hXW
     have HX1c:=Lib.hid hX1r;clear hX1r
     have HCP:=Lib.hid hcp;clear hcp
     have HRI1:=Lib.hid hri1;clear hri1
     go_wp2_with fail
     refine edloop (P:=P) (zc:=zc) (X:=X) (X1:=X1) HP HV HSZ HMN HN1 HN2 HN3 HX HY HAE HBE HROW hna2 hnb2 hM4 hmn6 hkt hit hjt HW HWN HSMW HX1o HZC HEND HXW0 HX1c HCP HRI1 (Lib.hid ?r4pan) (Lib.hid ?r4exit) (Lib.hid ?r4ret)
     case r4pan=>exact fun e a d v w h=>HPAN.out e a d v w h
     case r4exit =>
      intro v6 v7 v17 v18 v19 v20 v21 v22 v167 v168 v169 v170 v171 v172 v173 v174 v175 v176 v177 v178 v179 v180 v181 v182 v183 v184 v185 v186 v187 v188 v189 v190 v191 v192 v193 v194 v195 v196 v197 v198 v199 v200 v201 v202 v203 v204 v205 v206 v207 v208 v209 v210 v211 v212 v213 v214 v215 v216 v217 v218 v219 v220 v221 v222 v223 v224 v225 v226 v227 v228 v229 v230 v231 v232 v233 v234 v235 v236 v237 v238 v239 v240 v241 w2 X2 h1 h2 h3
      have HX2e:=Lib.hid h1;clear h1
      have HFIN:=Lib.hid (HNX3.out.trans h2);clear h2
      have HRI2:=Lib.hid h3;clear h3
      go_wp2_with fail
      go_roundw
      case rel=>exact ⟨j+1,by omega,by go_num,X2,HX2e.out,HFIN.out.symm,HRI2.out⟩
      case measure=>simp [intOf];omega
     case r4ret =>
      intro v17 v18 v19 v20 v21 v22 v167 v168 v169 v170 v171 v172 v173 v174 v175 v176 v177 v178 v179 v180 v181 v182 v183 v184 v185 v186 v187 v188 v189 v190 v191 v192 v193 v194 v195 v196 v197 v198 v199 v200 v201 v202 v203 v204 v205 v206 v207 v208 v209 v210 v211 v212 v213 v214 v215 v216 v217 v218 v219 v220 v221 v222 v223 v224 v225 v226 v227 v228 v229 v230 v231 v232 v233 v234 v235 v236 v237 v238 v239 v240 v241 w2 hb2 hcf
      exact HRET.out _ _ _ _ _ _ _ _ _ _ _ _ _ _ _ _ _ _ _ _ _ _ _ _ _ _ _ _ _ _ _ _ _ _ _ _ _ _ _ _ _ _ _ _ _ _ _ _ _ _ _ _ _ _ _ _ _ _ _ _ _ _ _ _ _ _ _ _ _ _ _ _ _ _ _ _ _ _ _ _ _ _ _ _ _ _ _ _ _ _ _ _ _ _ _ _ _ _ _ _ _ _ _ _ _ _ _ _ _ _ _ _ _ _ _ _ _ _ _ _ _ _ _ _ _ _ _ _ _ _ _ _ _ _ _ _ _ _ _ _ _ _ _ _ _ _ _ _ _ hb2 hcf
   ·have hw:X k i j=infS:=by rw [← HW.out];exact toList_eq hO
    have hst:stpC P (k,i,j) (deI X,0)=(deI X,0):=stpC_nil ((deI_nil HX1.out).2 hw)
    have HST:=Lib.hid (HNX3.out.trans hst);clear hw hst
    go_wp2_with fail
    clear d1 d2 d3
    go_roundw
    case rel=>exact ⟨j+1,by omega,by go_num,X,HX1.out,HST.out.symm,HRI.out⟩
    case measure=>simp [intOf];omega
  ·have hjn:j=n3:=by omega
   have hgt:¬ ((j:Int)≤(nb:Int)):=by have:=HN3.out;omega
   have hx2:=HX2.out
   have hb1:n3=P.b+1:=by rw [HP.out];exact HN3.out
   rw [hjn,hb1] at hx2
   have HX3:=Lib.hid hx2;clear hx2 hb1 hjn
   go_wp2_with fail
   exact HEXIT.out _ _ _ _ _ _ _ _ _ _ _ _ _ _ _ _ _ _ _ _ _ _ _ _ _ _ _ _ _ _ _ _ _ _ _ _ _ _ _ _ _ _ _ _ _ _ _ _ _ _ _ _ _ _ _ _ _ _ _ _ _ _ _ _ _ _ _ _ _ _ _ _ _ _ _ _ _ _ _ _ _ _ _ _ _ _ _ _ _ _ _ _ _ _ _ _ _ _ _ _ _ _ _ _ _ _ _ _ _ _ _ _ _ _ _ _ _ _ _ _ _ _ _ _ _ _ _ _ _ _ _ _ _ _ _ _ _ _ _ _ _ _ _ _ _ _ _ _ _ _ _ _ HX1.out HX3.out HRI.out
end Go.Proofs.YtjekapjbigfkbaaGreatDoor
