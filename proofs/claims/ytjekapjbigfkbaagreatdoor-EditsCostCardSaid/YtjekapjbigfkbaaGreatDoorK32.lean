/- Parts of a proof: EdRC. -/
import Derived.Test.YtjekapjbigfkbaaGreatDoorK31
namespace Go.Proofs.YtjekapjbigfkbaaGreatDoor
open Go Go.RowKit Go.Deep
set_option maxRecDepth 100000
set_option linter.unusedSimpArgs false
set_option maxHeartbeats 16000000 in
theorem rccost_any {M:EM} {mv xv yv:Value} {na nb:Nat} {x y:Nat→Int} (w:World) (hM:Em none w mv M) (hs:ESz M) (hx:Si none w xv na x) (hy:Si none w yv nb y) :
  Calls Tryz.prog 18 #[mv,xv,yv] w (CosE M na x nb y w):=by
 obtain ⟨sv,rfl,hS⟩:=hM
 obtain ⟨a,cap,be,oe,EA,EA',EC,EC',hsv,hae,hce,hcem,hbe,hrow⟩:=hS.open
 have hna:=le_of_len hx
 have hnb:=le_of_len hy
 obtain ⟨ax,cx,bx,ox,hxv,hax,hcx,hcm,hxb,hxc⟩:=hx.open
 obtain ⟨ay,cy,by',oy,hyv,hay,hcy,hcym,hyb,hyc⟩:=hy.open
 subst hsv hxv hyv
 clear hcx hcm hcy hcym hce hcem
 obtain ⟨w1,hw1⟩:∃ w1,w1=w.alloc (.cells #[.slice a M.n cap,.int .i64 M.most] 24):=⟨_,rfl⟩
 obtain ⟨mb,hmb⟩:∃ mb,mb=w.heap.size:=⟨_,rfl⟩
 have hf1:Fr (fun _=>False) w w1:=by rw [hw1];exact Fr.alloc _ _
 have hbx:BoxE w1 mb M (.slice a M.n cap):=by rw [hw1,hmb];exact BoxE.new w M _
 have hb1:Below w.heap.size w w1:=hf1.below (Nat.le_refl _) (fun _ e=>e.elim)
 have HVA:=Lib.hid (rmvalid_any w1 (⟨_,rfl,hS.kept (gb_below hb1 none)⟩:Em none w1 (.agg #[.slice a M.n cap,.int .i64 M.most]) M) hs)
 have m0:=hbx.c0
 have m1:=hbx.c1
 have HB1:=Lib.hid hb1;clear hb1 hf1
 have HBX:=Lib.hid hbx;clear hbx
 have HSZ:=Lib.hid hs;clear hs
 have HX:=Lib.hid hx;clear hx
 have HY:=Lib.hid hy;clear hy
 have HXB:=Lib.hid hxb;clear hxb
 have HYB:=Lib.hid hyb;clear hyb
 have HXC:=Lib.hid hxc;clear hxc
 have HYC:=Lib.hid hyc;clear hyc
 have HAX:=Lib.hid hax;clear hax
 have HAY:=Lib.hid hay;clear hay
 have HAE:=Lib.hid hae;clear hae
 have HBE:=Lib.hid hbe;clear hbe
 have HROW:=Lib.hid hrow;clear hrow
 clear hS
 go_enter Tryz.func18,Tryz.ntmps18
 go_wp2_with fail
 rw [← hw1,← hmb]
 clear hw1
 have HMB:=Lib.hid hmb;clear hmb
 refine HVA.out.mono ?_
 rintro rr w2 ⟨hb2,hrr⟩
 have HB2:=Lib.hid (HB1.out.trans (hb2.mono HB1.out.size))
 have HBX2:=Lib.hid (show BoxE w2 mb M (.slice a M.n cap) from (hb2.block mb HBX.out.lt).trans HBX.out)
 clear hb2 HVA m0 m1 HBX HB1
 rcases hrr with ⟨hv,rfl⟩ | ⟨hv,rfl⟩
 rotate_left
 ·have HV:=Lib.hid hv;clear hv
  go_wp2_with fail
  go_ret2
  exact ⟨HB2.out,.inr ⟨fun h=>HV.out h.1,rfl⟩⟩
 have HV:=Lib.hid hv;clear hv
 have HWX:=Lib.hid (rword_any w2 (HX.out.kept (gb_below HB2.out none)) hna)
 go_wp2_with fail
 refine HWX.out.mono ?_
 rintro rr w3 ⟨rfl,rfl⟩
 cases hwx:isWord na x
 ·have HN:=Lib.hid hwx;clear hwx
  go_wp2_with fail
  go_ret2
  exact ⟨HB2.out,.inr ⟨fun h=>by rw [HN.out] at h;exact absurd h.2.1 (by simp),rfl⟩⟩
 have hna2:na≤200:=by unfold isWord at hwx;simp at hwx;exact hwx.1
 have HWXX:=Lib.hid hwx;clear hwx HWX
 have HWY:=Lib.hid (rword_any w3 (HY.out.kept (gb_below HB2.out none)) hnb)
 go_wp2_with fail
 refine HWY.out.mono ?_
 rintro rr w4 ⟨rfl,rfl⟩
 cases hwy:isWord nb y
 ·have HN:=Lib.hid hwy;clear hwy
  go_wp2_with fail
  go_ret2
  exact ⟨HB2.out,.inr ⟨fun h=>by rw [HN.out] at h;exact absurd h.2.2 (by simp),rfl⟩⟩
 have hnb2:nb≤200:=by unfold isWord at hwy;simp at hwy;exact hwy.1
 have HWYY:=Lib.hid hwy;clear hwy HWY
 obtain ⟨mn,hmn⟩:∃ mn:Nat,M.most=(mn:Int):=⟨M.most.toNat,by have:=HV.out.m0;omega⟩
 have hmn6:mn≤6:=by have:=HV.out.m6;omega
 have hM4:M.n≤400:=HV.out.n4
 obtain ⟨n1,hn1⟩:∃ n1,n1=mn+1:=⟨_,rfl⟩
 obtain ⟨n2,hn2⟩:∃ n2,n2=na+1:=⟨_,rfl⟩
 obtain ⟨n3,hn3⟩:∃ n3,n3=nb+1:=⟨_,rfl⟩
 have h1b:n1≤7:=by omega
 have h2b:n2≤201:=by omega
 have h3b:n3≤201:=by omega
 have hmk1:=run_make_row' (P:=Tryz.prog) 63 66 (.slice none 0 0) 24 Tryz.underlying63 info_strss rfl .i64 .i64 n1 (by omega) (by omega)
 have hmk2:=run_make_row' (P:=Tryz.prog) 66 67 (.slice none 0 0) 24 Tryz.underlying66 info_strs rfl .i64 .i64 n2 (by omega) (by omega)
 have hz1:((n1:Nat):Int)=(mn:Int)+1:=by omega
 have hz2:((n2:Nat):Int)=(na:Int)+1:=by omega
 rw [hz1] at hmk1
 rw [hz2] at hmk2
 clear hz1 hz2
 have HN1:=Lib.hid hn1;clear hn1
 have HN2:=Lib.hid hn2;clear hn2
 have HN3:=Lib.hid hn3;clear hn3
 have hzero:=fun W=>r4zero_any 1 W
 rw [show zeroF 1=infS from rfl] at hzero
 have HZERO:=Lib.hid hzero;clear hzero
 go_wp2_with fail
 refine (HZERO.out _).mono ?_
 rintro rr w5 ⟨rfl,hb5⟩
 have HB5:=Lib.hid (HB2.out.trans (hb5.mono HB2.out.size))
 have hbx5:BoxE w5 mb M (.slice a M.n cap):=(hb5.block mb HBX2.out.lt).trans HBX2.out
 clear hb5 HB2 HBX2 HZERO
 have HMN:=Lib.hid hmn
 have m1:=hbx5.c1
 rw [hmn] at m1
 clear hmn
 obtain ⟨w6,hw6⟩:∃ w6,w6=w5.alloc (.cells (madeCells #[.slice none 0 0] n1) 66):=⟨_,rfl⟩
 obtain ⟨g,hg⟩:∃ g,g=w5.heap.size:=⟨_,rfl⟩
 have hf6:Fr (fun _=>False) w5 w6:=by rw [hw6];exact Fr.alloc _ _
 have htq:Tq w6 w.heap.size g n1 n2 0 (fun _=>0) (fun _ _=>.slice none 0 0) (fun _ _=>0):=by rw [hw6,hg];exact Tq.made w5 HB5.out.size n1 n2
 have HTQ:=Lib.hid htq;clear htq
 have HBX6:=Lib.hid (show BoxE w6 mb M (.slice a M.n cap) from (hf6.block mb hbx5.lt (fun e=>e)).trans hbx5)
 have HB6:=Lib.hid (HB5.out.trans (hf6.below HB5.out.size (fun _ e=>e.elim)))
 clear hf6 hbx5 HB5
 go_wp2_with fail
 rw [← hw6,← hg]
 clear hw6 hg m1 hmk1
 have hinf:infS.size≤9223372036854775807:=inf_sm
 have HINF:=Lib.hid hinf;clear hinf
 obtain ⟨i0,hi0,hy0,hy1,hy2⟩:=info_parts2 info_str
 have HI0:=Lib.hid hi0;clear hi0
 have HY0:=Lib.hid hy0;clear hy0
 have HY1:=Lib.hid hy1;clear hy1
 have HY2:=Lib.hid hy2;clear hy2
 go_loopw [10] (fun v10 wr=>∃ k:Nat,k≤n1∧v10=.int .i64 (k:Int)∧(∃ r S L,Tq wr w.heap.size g n1 n2 k r S L∧∀ q i',q < k→i' < n2→L q i'=n3)∧BoxE wr mb M (.slice a M.n cap)∧Below w.heap.size w wr) (fun v10 _=>n1 - (intOf v10).toNat)
 case atStart=>exact ⟨0,Nat.zero_le _,rfl,⟨_,_,_,HTQ.out,fun q i' hq=>absurd hq (Nat.not_lt_zero _)⟩,HBX6.out,HB6.out⟩
 case round =>
  obtain ⟨k,hk,rfl,⟨r,S,L,htq,hL⟩,hbx,hbe⟩:=hrel
  clear HTQ HBX6 HB6
  have HTQ:=Lib.hid htq;clear htq
  have HL:=Lib.hid hL;clear hL
  have HBX:=Lib.hid hbx;clear hbx
  have HBW:=Lib.hid hbe;clear hbe
  have m1:=HBX.out.c1
  rw [HMN.out] at m1
  by_cases hkt:k < n1
  ·skip
   have hkz:(k:Int)≤(mn:Int):=by have:=HN1.out;omega
   have hkz1:(k:Int) < (n1:Int):=by omega
   have hkz0:(0:Int)≤(k:Int):=by omega
   obtain ⟨wo,rfl⟩:∃ wo:World,wo=wr:=⟨_,rfl⟩
   have hglt:g < wo.heap.size:=HTQ.out.top.lt
   have c0:=HTQ.out.top.cell hkt
   rw [if_neg (Nat.lt_irrefl k)] at c0
   have f0:=HTQ.out.top.frozen k
   obtain ⟨w7,hw7⟩:∃ w7,w7=(wo.setCell ⟨g,k,none⟩ (.slice (some ⟨wo.heap.size,0,none⟩) n2 n2)).alloc (.cells (madeCells #[.slice none 0 0] n2) 67):=⟨_,rfl⟩
   have hbg:w.heap.size≤g:=HTQ.out.base
   have hgm:mb≠g:=fun e=>rowIs_blk HTQ.out.top HBX.out (by decide) e.symm
   have hfs:Fr (fun q=>q=g) wo w7:=by rw [hw7];exact ((Fr.refl (fun q=>q=g) wo).set (p:=⟨g,k,none⟩) (.inl rfl) _).trans (Fr.alloc _ _)
   have htq7:=HTQ.out.addRow HBW.out.size
   rw [← hw7] at htq7
   have HTQ7:=Lib.hid htq7;clear htq7
   have HBX7:=Lib.hid (show BoxE w7 mb M (.slice a M.n cap) from (hfs.block mb HBX.out.lt hgm).trans HBX.out)
   have HB7:=Lib.hid (HBW.out.trans (hfs.below HBW.out.size (fun q e=>by rw [e];exact hbg)))
   have HLL:=Lib.hid (LL.row HL.out)
   clear hfs HTQ HBX HBW HL
   go_wp2_with fail
   rw [← hw7]
   clear hw7 c0 f0 m1 hglt
   go_loopw [11] (fun v11 wr=>∃ i:Nat,i≤n2∧v11=.int .i64 (i:Int)∧(∃ r S L,Tq wr w.heap.size g n1 n2 (k+1) r S L∧LL n2 n3 k i 0 L)∧BoxE wr mb M (.slice a M.n cap)∧Below w.heap.size w wr) (fun v11 _=>n2 - (intOf v11).toNat)
   case atStart=>exact ⟨0,Nat.zero_le _,rfl,⟨_,_,_,HTQ7.out,HLL.out⟩,HBX7.out,HB7.out⟩
   case round =>
    obtain ⟨i,hi,rfl,⟨r,S,L,htq,hL⟩,hbx,hbe⟩:=hrel
    clear HTQ7 HBX7 HB7 HLL
    have HTQ:=Lib.hid htq;clear htq
    have HL:=Lib.hid hL;clear hL
    have HBX:=Lib.hid hbx;clear hbx
    have HBW:=Lib.hid hbe;clear hbe
    by_cases hit:i < n2
    ·have hiz:(i:Int)≤(na:Int):=by have:=HN2.out;omega
     have hiz1:(i:Int) < (n2:Int):=by omega
     have hiz0:(0:Int)≤(i:Int):=by omega
     go_wp2_with fail
     go_loopw [12] (fun v12 wr=>∃ j:Nat,j≤n3∧v12=.int .i64 (j:Int)∧(∃ r S L,Tq wr w.heap.size g n1 n2 (k+1) r S L∧LL n2 n3 k i j L)∧BoxE wr mb M (.slice a M.n cap)∧Below w.heap.size w wr) (fun v12 _=>n3 - (intOf v12).toNat)
     case atStart=>exact ⟨0,Nat.zero_le _,rfl,⟨_,_,_,HTQ.out,HL.out⟩,HBX.out,HBW.out⟩
     case round =>
      obtain ⟨j,hj,rfl,⟨r,S,L,htq,hL⟩,hbx,hbe⟩:=hrel
      clear HTQ HBX HBW HL
      have HTQ:=Lib.hid htq;clear htq
      have HL:=Lib.hid hL;clear hL
      have HBX:=Lib.hid hbx;clear hbx
      have HBW:=Lib.hid hbe;clear hbe
      by_cases hjt:j < n3
      ·have hjz:(j:Int)≤(nb:Int):=by have:=HN3.out;omega
       have hkk:k < k+1:=Nat.lt_succ_self k
       have c0:=HTQ.out.top.cell hkt
       rw [if_pos hkk] at c0
       have c1:=(HTQ.out.mid k hkk).1.cell hit
       have hLj:L k i=j:=by have:=HL.out.2 i hit;rw [if_neg (Nat.lt_irrefl i),if_pos rfl] at this;exact this
       obtain ⟨av,cv,hSv,_,_⟩:=row_any (HTQ.out.row k i hkk hit)
       rw [hLj] at hSv
       rw [hSv] at c1
       have f1:=(HTQ.out.mid k hkk).1.frozen i
       obtain ⟨rk,hrk⟩:∃ rk,rk=r k:=⟨_,rfl⟩
       rw [← hrk] at c0 c1 f1
       have HSV:=Lib.hid hSv;clear hSv
       have HLJ:=Lib.hid hLj;clear hLj
       have HRK:=Lib.hid hrk;clear hrk
       have hS0:wr.drew.cell? ⟨g,k,none⟩=some (.slice (some ⟨rk,0,none⟩) n2 n2)∧wr.drew.cell? ⟨rk,i,none⟩=some (.slice av j cv):=⟨c0,c1⟩
       obtain ⟨wz,hwz⟩:∃ wz,wz=(wr.alloc (.cells #[.string infS] 9)).drew:=⟨_,rfl⟩
       have hfz:Fr (fun _=>False) wr wz:=by rw [hwz];exact (Fr.alloc _ _).drew
       have hzz:wz.heap.size=wr.heap.size+1:=by rw [hwz];simp
       have hnew:wz.cell? ⟨wr.heap.size,0,none⟩=some (.string infS):=by rw [hwz];exact cell_new wr _ _ 0 _ rfl
       have hSz:wz.cell? ⟨g,k,none⟩=some (.slice (some ⟨rk,0,none⟩) n2 n2)∧wz.cell? ⟨rk,i,none⟩=some (.slice av j cv):=⟨hfz.cell c0 (fun e=>e),hfz.cell c1 (fun e=>e)⟩
       have hrz:=(HTQ.out.new hfz).row k i hkk hit
       rw [HSV.out,HLJ.out] at hrz
       have hwsz:w.heap.size≤wz.heap.size:=by have:=HBW.out.size;omega
       have happ:∀ (wa:World) (go cp:Nat),wa.ownsRow w.heap.size 9 1 (.slice (some ⟨go,0,none⟩) (j+1) cp) (j+1) (strs j (fun _=>infS)++[.string infS])→wz.grownBy wa (Value.slice av j cv).ownBlock→((Value.slice av j cv).ownBlock=some go∨go=wz.heap.size) →
         (∃ r S L,Tq (wa.setCell ⟨rk,i,none⟩ (.slice (some ⟨go,0,none⟩) (j+1) cp)) w.heap.size g n1 n2 (k+1) r S L∧LL n2 n3 k i (j+1) L)∧(wa.cell? ⟨g,k,none⟩=some (.slice (some ⟨rk,0,none⟩) n2 n2)∧wa.cell? ⟨rk,i,none⟩=some (.slice av j cv))∧wa.frozen? ⟨rk,i,none⟩=false ∧
         BoxE (wa.setCell ⟨rk,i,none⟩ (.slice (some ⟨go,0,none⟩) (j+1) cp)) mb M (.slice a M.n cap)∧Below w.heap.size w (wa.setCell ⟨rk,i,none⟩ (.slice (some ⟨go,0,none⟩) (j+1) cp)):=fun wa go cp h1 h2 h3=>by
        have ht:=HTQ.out.new hfz
        have hrow':=hrz
        have hne:∀ {b m:Nat} {t:TypeId} {F:Nat→Value},wz.rowIs b t m F→t≠9→¬ ((Value.slice av j cv).ownBlock=some b):=fun hr htt=>own_row hrow' hr htt
        have hf1:Fr (fun b=>(Value.slice av j cv).ownBlock=some b) wz wa:=Fr.of_gb h2 (fun _ e=>e)
        have hmr:wz.rowIs rk 67 n2 (S k):=by rw [HRK.out];exact (ht.mid k hkk).1
        have hma:=hf1.row hmr (hne hmr (by decide))
        have hbz:BoxE wz mb M (.slice a M.n cap):=(hfz.block mb HBX.out.lt (fun e=>e)).trans HBX.out
        have hba:BoxE wa mb M (.slice a M.n cap):=(hf1.block mb hbz.lt (own_blk hrow' hbz (by decide))).trans hbz
        have hlow:w.heap.size≤rk:=by rw [HRK.out];exact (HTQ.out.mid k hkk).2
        have happ:=HTQ.out.app (q:=k) (i:=i) (go:=go) (cp:=cp) hkk hit hfz (by rw [HLJ.out];exact h1) (by rw [HSV.out];exact h2) (by rw [HSV.out];exact h3)
        rw [HLJ.out,← HRK.out] at happ
        have hll:=HL.out.app hit
        rw [HLJ.out] at hll
        refine ⟨⟨_,_,_,happ,hll⟩,⟨hf1.cell hSz.1 (hne ht.top (by decide)),hf1.cell hSz.2 (hne hmr (by decide))⟩,hma.frozen i,?_,?_⟩
        ·refine (blk_setCell_other _ _ _ _ (fun e=>?_)).trans hba
         exact rowIs_blk hma hba (by decide) e.symm
        ·have hb1:=HBW.out.trans (hfz.below HBW.out.size (fun _ e=>e.elim))
         exact ((hb1.trans (hf1.below hb1.size (fun q e=>(World.ownsRow.lt hrow' q e).1))).setCell (p:=⟨rk,i,none⟩) hlow _)
       have HAPP:=Lib.hid happ;clear happ
       have HRZ:=Lib.hid hrz;clear hrz
       have HNEW:=Lib.hid hnew;clear hnew
       have HZZ:=Lib.hid hzz;clear hzz hfz
       go_wp2_with fail
       refine region_heldK (fun wk=>wk.cell? ⟨g,k,none⟩=some (.slice (some ⟨rk,0,none⟩) n2 n2)∧wk.cell? ⟨rk,i,none⟩=some (.slice av j cv)) 16 (by kernel_rfl) ?_
       refine AnyK.tk (i:=0) (v:=?va0) rfl (by kernel_rfl) hS0 (Or.inl ⟨by kernel_rfl,?hya0⟩) ?resta0
       case hya0=>rintro wk ⟨s1,s2⟩;go_simp;try with_reducible rfl
       refine AnyK.tk (i:=1) (v:=?va1) rfl (by kernel_rfl) hS0 (Or.inl ⟨by kernel_rfl,?hya1⟩) ?resta1
       case hya1=>rintro wk ⟨s1,s2⟩;go_simp;try with_reducible rfl
       refine AnyK.tk (i:=2) (v:=?va2) rfl (by kernel_rfl) hS0 (Or.inl ⟨by kernel_rfl,?hya2⟩) ?resta2
       case hya2=>rintro wk ⟨s1,s2⟩;go_simp;try with_reducible rfl
       refine AnyK.tk (i:=3) (v:=?va3) rfl (by kernel_rfl) hS0 (Or.inl ⟨by kernel_rfl,?hya3⟩) ?resta3
       case hya3=>rintro wk ⟨s1,s2⟩;go_simp;try with_reducible rfl
       refine AnyK.tk (i:=4) (v:=?va4) rfl (by kernel_rfl) hS0 (Or.inl ⟨by kernel_rfl,?hya4⟩) ?resta4
       case hya4=>rintro wk ⟨s1,s2⟩;go_simp;try with_reducible rfl
       refine AnyK.tk (i:=5) (v:=?va5) rfl (by kernel_rfl) hS0 (Or.inl ⟨by kernel_rfl,?hya5⟩) ?resta5
       case hya5=>rintro wk ⟨s1,s2⟩;go_simp;try with_reducible rfl
       refine AnyK.tk (i:=6) (v:=?va6) rfl (by kernel_rfl) hS0 (Or.inl ⟨by kernel_rfl,?hya6⟩) ?resta6
       case hya6=>rintro wk ⟨s1,s2⟩;go_simp;try with_reducible rfl
       refine AnyK.tk (i:=7) (v:=?va7) rfl (by kernel_rfl) hS0 (Or.inl ⟨by kernel_rfl,?hya7⟩) ?resta7
       case hya7=>rintro wk ⟨s1,s2⟩;go_simp;try with_reducible rfl
       refine AnyK.tk (i:=8) (v:=?va8) rfl (by kernel_rfl) hS0 (Or.inl ⟨by kernel_rfl,?hya8⟩) ?resta8
       case hya8=>rintro wk ⟨s1,s2⟩;go_simp;try with_reducible rfl
       refine AnyK.tk (i:=9) (v:=?va9) rfl (by kernel_rfl) hS0 (Or.inl ⟨by kernel_rfl,?hya9⟩) ?resta9
       case hya9=>rintro wk ⟨s1,s2⟩;go_simp;try with_reducible rfl
       refine AnyK.tk (i:=10) (v:=?va10) rfl (by kernel_rfl) hS0 (Or.inl ⟨by kernel_rfl,?hya10⟩) ?resta10
       case hya10=>rintro wk ⟨s1,s2⟩;go_simp;try with_reducible rfl
       refine AnyK.tk (i:=11) (v:=?va11) rfl (by kernel_rfl) hS0 (Or.inl ⟨by kernel_rfl,?hya11⟩) ?resta11
       case hya11=>rintro wk ⟨s1,s2⟩;go_simp;try with_reducible rfl
       refine AnyK.tk (i:=12) (v:=?va12) rfl (by kernel_rfl) hS0 (Or.inl ⟨by kernel_rfl,?hya12⟩) ?resta12
       case hya12=>rintro wk ⟨s1,s2⟩;go_simp;try with_reducible rfl
       try simp only [Act.put,List.setIfInBounds_toArray,List.set_cons_zero,List.set_cons_succ,List.getElem_toArray,List.getElem_cons_succ,List.getElem_cons_zero]
       clear c0 c1 f1 hS0
       refine AnyK.one (i:=13) rfl (by kernel_rfl) (by rfl) (fun K hK=>?_)
       go_simp
       rw [← hwz]
       have HWZ:=Lib.hid hwz;clear hwz
       refine hK.out _ _ (.inr hSz) ?_
       clear hK K
       try simp only [Act.put,List.setIfInBounds_toArray,List.set_cons_zero,List.set_cons_succ,List.getElem_toArray,List.getElem_cons_succ,List.getElem_cons_zero]
       refine AnyK.one (i:=14) rfl (by kernel_rfl) (by rfl) (fun K hK=>?_)
       refine wp_append_lies _ (.tmp 79) (.tmp 81) 67 rfl w.heap.size 9 i0 (.string ⟨#[]⟩) 1 16 Tryz.underlying67 HI0.out HY0.out HY1.out HY2.out rfl (by omega) (.slice av j cv) j _ (by simp [Act.eval]) HRZ.out ⟨wr.heap.size,0,none⟩ 1 1 [.string infS] (by simp [Act.eval]) rfl (news1c HNEW.out) (one_str _) (by omega) (by unfold maxLen;omega) (by omega) hwsz _ rfl ?_
       intro go cp wa hown hgrow hat hlt'
       obtain ⟨h1,h2,h3,h4,h5⟩:=HAPP.out wa go cp hown hgrow hat
       have H1:=Lib.hid h1;clear h1
       have H4:=Lib.hid h4;clear h4
       have H5:=Lib.hid h5;clear h5
       clear hown hgrow hat hlt' hSz HAPP
       refine hK.out _ _ (.inr h2) ?_
       clear hK K
       try simp only [Act.put,List.setIfInBounds_toArray,List.set_cons_zero,List.set_cons_succ,List.getElem_toArray,List.getElem_cons_succ,List.getElem_cons_zero]
       refine AnyK.tk (i:=15) (v:=?vb15) rfl (by kernel_rfl) h2 (Or.inl ⟨by kernel_rfl,?hyb15⟩) ?restb15
       case hyb15=>rintro wk ⟨s1,s2⟩;go_simp;try with_reducible rfl
       try simp only [Act.put,List.setIfInBounds_toArray,List.set_cons_zero,List.set_cons_succ,List.getElem_toArray,List.getElem_cons_succ,List.getElem_cons_zero]
       have g0:=h2.2
       refine AnyK.one (i:=16) rfl (by kernel_rfl) (by rfl) (fun K hK=>?_)
       go_simp
       refine hK.out _ _ (.inl rfl) (AnyK.done (by kernel_rfl) ?_ _)
       clear hK K g0 h2 h3
       go_wp2_with fail
       go_roundw
       case rel=>exact ⟨j+1,by omega,by go_num,H1.out,H4.out,H5.out⟩
       case measure=>simp [intOf];omega
      ·have hjn:j=n3:=by omega
       have hgt:¬ ((j:Int)≤(nb:Int)):=by have:=HN3.out;omega
       have hll:=HL.out
       rw [hjn] at hll
       have HLN:=Lib.hid hll.next;clear hll hjn
       go_wp2_with fail
       go_roundw
       case rel=>exact ⟨i+1,by omega,by go_num,⟨_,_,_,HTQ.out,HLN.out⟩,HBX.out,HBW.out⟩
       case measure=>simp [intOf];omega
    ·have hin:i=n2:=by omega
     have hgt:¬ ((i:Int)≤(na:Int)):=by have:=HN2.out;omega
     have hll:=HL.out
     rw [hin] at hll
     have HLN:=Lib.hid hll.full;clear hll hin
     go_wp2_with fail
     go_roundw
     case rel=>exact ⟨k+1,by omega,by go_num,⟨_,_,_,HTQ.out,HLN.out⟩,HBX.out,HBW.out⟩
     case measure=>simp [intOf];omega
  ·have hkn:k=n1:=by omega
   have hgt:¬ ((k:Int)≤(mn:Int)):=by have:=HN1.out;omega
   have htq:=HTQ.out
   have hL:=HL.out
   rw [hkn] at htq hL
   obtain ⟨s,c,hcv⟩:=htq.cv hL (by have:=HN3.out;omega)
   clear htq hL hkn
   have h1p:0 < n1:=by have:=HN1.out;omega
   have h2p:0 < n2:=by have:=HN2.out;omega
   have h3p:0 < n3:=by have:=HN3.out;omega
   have hri0:RcI w wr mb g n1 n2 n3 M (.slice a M.n cap) r s c (fun _ _ _=>infS):=⟨hcv,HBX.out,HBW.out⟩
   have hri:=hri0.set (k:=0) (i:=0) (j:=0) (v:=⟨#[48]⟩) h1p h2p h3p (by unfold smS;decide)
   rw [updX_XI0] at hri
   have d1:=hcv.c1 h1p
   have d2:=hcv.c2 h1p h2p
   have d3:=hcv.c3 h1p h2p h3p
   have f3:=hcv.f3 h1p h2p 0
   have hg1:(0:Int) < (n1:Int):=by omega
   have hg2:(0:Int) < (n2:Int):=by omega
   have hg3:(0:Int) < (n3:Int):=by omega
   obtain ⟨r0,hr0⟩:∃ r0,r0=r 0:=⟨_,rfl⟩
   obtain ⟨s0,hs0⟩:∃ s0,s0=s 0 0:=⟨_,rfl⟩
   rw [← hr0] at d1 d2
   rw [← hs0] at d2 d3 f3 hri
   obtain ⟨wa,hwa⟩:∃ wa,wa=wr.setCell ⟨s0,0,none⟩ (.string ⟨#[48]⟩):=⟨_,rfl⟩
   rw [← hwa] at hri
   have HRI:=Lib.hid hri;clear hri hri0 hcv hr0 hs0 HBX HBW HL HTQ h1p h2p h3p
   obtain ⟨P,hP⟩:∃ P:EP,P=⟨M,na,x,nb,y⟩:=⟨_,rfl⟩
   have HP:=Lib.hid hP;clear hP
   go_wp2_with fail
   rw [← hwa]
   clear hwa d1 d2 d3 f3 hg1 hg2 hg3 m1 hkt hgt hmk2
   go_loopw [13] (fun v13 wr=>∃ k:Nat,k≤n1∧v13=.int .i64 (k:Int)∧∃ X,RI X∧(deI X,0)=tabP P k (X0,0)∧RcI w wr mb g n1 n2 n3 M (.slice a M.n cap) r s c X) (fun v13 _=>n1 - (intOf v13).toNat)
   case atStart=>exact ⟨0,Nat.zero_le _,rfl,XI0,XI0_ri,by rw [XI0_de];rfl,HRI.out⟩
   case round =>
    obtain ⟨k,hk,rfl,X,hx1,hx2,hri⟩:=hrel
    clear HRI
    have HX1:=Lib.hid hx1;clear hx1
    have HX2:=Lib.hid hx2;clear hx2
    have HRI:=Lib.hid hri;clear hri
    have m1:=HRI.out.bm.c1
    rw [HMN.out] at m1
    by_cases hkt:k < n1
    ·have hkz:(k:Int)≤(mn:Int):=by have:=HN1.out;omega
     have hkz1:(k:Int) < (n1:Int):=by omega
     have hkz0:(0:Int)≤(k:Int):=by omega
     obtain ⟨z1,hz1⟩:∃ z1,z1=tabP P k (X0,0):=⟨_,rfl⟩
     have hnx:tabP P (k+1) (X0,0)=rowP P k (P.a+1) z1:=by rw [hz1];rfl
     have HNX:=Lib.hid hnx;clear hnx
     rw [← hz1] at HX2
     have HZ1:=Lib.hid hz1;clear hz1
     go_wp2_with fail
     clear m1
     go_loopw [14] (fun v14 wr=>∃ i:Nat,i≤n2∧v14=.int .i64 (i:Int)∧∃ X,RI X∧(deI X,0)=rowP P k i z1∧RcI w wr mb g n1 n2 n3 M (.slice a M.n cap) r s c X) (fun v14 _=>n2 - (intOf v14).toNat)
     case atStart=>exact ⟨0,Nat.zero_le _,rfl,X,HX1.out,HX2.out,HRI.out⟩
     case round =>
      obtain ⟨i,hi,rfl,X,hx1,hx2,hri⟩:=hrel
      clear HRI HX1 HX2
      have HX1:=Lib.hid hx1;clear hx1
      have HX2:=Lib.hid hx2;clear hx2
      have HRI:=Lib.hid hri;clear hri
      by_cases hit:i < n2
      ·have hiz:(i:Int)≤(na:Int):=by have:=HN2.out;omega
       have hiz1:(i:Int) < (n2:Int):=by omega
       have hiz0:(0:Int)≤(i:Int):=by omega
       obtain ⟨z2,hz2⟩:∃ z2,z2=rowP P k i z1:=⟨_,rfl⟩
       have hnx:rowP P k (i+1) z1=colP P k i (P.b+1) z2:=by rw [hz2];rfl
       have HNX2:=Lib.hid hnx;clear hnx
       rw [← hz2] at HX2
       have HZ2:=Lib.hid hz2;clear hz2
       go_wp2_with fail
       refine jloop (P:=P) (z1:=z1) (z2:=z2) (X:=X) HP HV HSZ HMN HN1 HN2 HN3 HX HY HAE HBE HROW hna2 hnb2 hM4 hmn6 hkt hit HAX HXB HXC HAY HYB HYC HZ1 HZ2 HX1 HX2 HRI (Lib.hid ?jpan) (Lib.hid ?jexit) (Lib.hid ?jret)
       case jpan=>exact fun _ _ d _ _ h=>by cases d <;> exact h
       case jexit =>
        intro v6 v7 v15 v16 v17 v18 v19 v20 v21 v22 v102 v103 v104 v105 v106 v107 v108 v109 v110 v111 v112 v113 v114 v115 v116 v117 v118 v119 v120 v121 v122 v123 v124 v125 v126 v127 v128 v129 v130 v131 v132 v133 v134 v135 v136 v137 v138 v139 v140 v141 v142 v143 v144 v145 v146 v147 v148 v149 v150 v151 v152 v153 v154 v155 v156 v157 v158 v159 v160 v161 v162 v163 v164 v165 v166 v167 v168 v169 v170 v171 v172 v173 v174 v175 v176 v177 v178 v179 v180 v181 v182 v183 v184 v185 v186 v187 v188 v189 v190 v191 v192 v193 v194 v195 v196 v197 v198 v199 v200 v201 v202 v203 v204 v205 v206 v207 v208 v209 v210 v211 v212 v213 v214 v215 v216 v217 v218 v219 v220 v221 v222 v223 v224 v225 v226 v227 v228 v229 v230 v231 v232 v233 v234 v235 v236 v237 v238 v239 v240 v241 w2 X2 h1 h2 h3
        have HX1e:=Lib.hid h1;clear h1
        have HX3:=Lib.hid (h2.trans HNX2.out.symm);clear h2
        have HRI2:=Lib.hid h3;clear h3
        go_wp2_with fail
        go_roundw
        case rel=>exact ⟨i+1,by omega,by go_num,X2,HX1e.out,HX3.out,HRI2.out⟩
        case measure=>simp [intOf];omega
       case jret =>
        intro v15 v16 v17 v18 v19 v20 v21 v22 v102 v103 v104 v105 v106 v107 v108 v109 v110 v111 v112 v113 v114 v115 v116 v117 v118 v119 v120 v121 v122 v123 v124 v125 v126 v127 v128 v129 v130 v131 v132 v133 v134 v135 v136 v137 v138 v139 v140 v141 v142 v143 v144 v145 v146 v147 v148 v149 v150 v151 v152 v153 v154 v155 v156 v157 v158 v159 v160 v161 v162 v163 v164 v165 v166 v167 v168 v169 v170 v171 v172 v173 v174 v175 v176 v177 v178 v179 v180 v181 v182 v183 v184 v185 v186 v187 v188 v189 v190 v191 v192 v193 v194 v195 v196 v197 v198 v199 v200 v201 v202 v203 v204 v205 v206 v207 v208 v209 v210 v211 v212 v213 v214 v215 v216 v217 v218 v219 v220 v221 v222 v223 v224 v225 v226 v227 v228 v229 v230 v231 v232 v233 v234 v235 v236 v237 v238 v239 v240 v241 w2 hb2 hcf
        have HB2:=Lib.hid hb2;clear hb2
        have hcf2:costC ⟨M,na,x,nb,y⟩=(⟨#[]⟩,2):=by rw [← HP.out];exact hcf
        have HCF:=Lib.hid hcf2;clear hcf hcf2
        go_wp2_with fail
        go_ret2
        exact ⟨HB2.out,.inl ⟨HV.out,HWXX.out,HWYY.out,by rw [HCF.out];rfl⟩⟩
      ·have hin:i=n2:=by omega
       have hgt:¬ ((i:Int)≤(na:Int)):=by have:=HN2.out;omega
       have hx2:=HX2.out
       have hb1:n2=P.a+1:=by rw [HP.out];exact HN2.out
       rw [hin,hb1,← HNX.out] at hx2
       have HX3:=Lib.hid hx2;clear hx2 hb1 hin
       go_wp2_with fail
       go_roundw
       case rel=>exact ⟨k+1,by omega,by go_num,X,HX1.out,HX3.out,HRI.out⟩
       case measure=>simp [intOf];omega
    ·have hkn:k=n1:=by omega
     have hgt:¬ ((k:Int)≤(mn:Int)):=by have:=HN1.out;omega
     have hx2:=HX2.out
     rw [hkn] at hx2
     have hco:costC ⟨M,na,x,nb,y⟩=(lstB X na nb n1,0):=by
      have h1:M.most.toNat+1=n1:=by rw [HMN.out,HN1.out];rfl
      have h2:=HP.out
      unfold costC
      rw [show (⟨M,na,x,nb,y⟩:EP).M.most.toNat+1=n1 from h1,← h2,← hx2,if_neg (by simp),lstB_eq HX1.out]
      rw [h2]
     have HCO:=Lib.hid hco;clear hco hx2
     go_wp2_with fail
     clear m1
     go_loopw [24,23] (fun v24 v23 wr=>∃ q:Nat,q≤n1∧v24=.int .i64 (q:Int)∧v23=.string (lstB X na nb q)∧RcI w wr mb g n1 n2 n3 M (.slice a M.n cap) r s c X) (fun v24 _ _=>n1 - (intOf v24).toNat)
     case atStart=>exact ⟨0,Nat.zero_le _,rfl,rfl,HRI.out⟩
     case round =>
      obtain ⟨q,hq,rfl,rfl,hri⟩:=hrel
      clear HRI
      have HRI:=Lib.hid hri;clear hri
      have m1:=HRI.out.bm.c1
      rw [HMN.out] at m1
      by_cases hqt:q < n1
      ·have hqz:(q:Int)≤(mn:Int):=by have:=HN1.out;omega
       have hqz1:(q:Int) < (n1:Int):=by omega
       have hqz0:(0:Int)≤(q:Int):=by omega
       have hlx:na < n2:=by have:=HN2.out;omega
       have hly:nb < n3:=by have:=HN3.out;omega
       have hlxz:(na:Int) < (n2:Int):=by omega
       have hlyz:(nb:Int) < (n3:Int):=by omega
       have hlxz0:(0:Int)≤(na:Int):=by omega
       have hlyz0:(0:Int)≤(nb:Int):=by omega
       have d1:=HRI.out.cv.c1 hqt
       have d2:=HRI.out.cv.c2 hqt hlx
       have d3:=HRI.out.cv.c3 hqt hlx hly
       obtain ⟨rq,hrq⟩:∃ rq,rq=r q:=⟨_,rfl⟩
       obtain ⟨sq,hsq⟩:∃ sq,sq=s q na:=⟨_,rfl⟩
       obtain ⟨cq,hcq⟩:∃ cq,cq=c q na:=⟨_,rfl⟩
       obtain ⟨XX,hXX⟩:∃ XX,XX=X q na nb:=⟨_,rfl⟩
       obtain ⟨LB,hLB⟩:∃ LB,LB=lstB X na nb q:=⟨_,rfl⟩
       rw [← hrq] at d1 d2
       rw [← hsq] at d2 d3
       rw [← hcq] at d2
       rw [← hXX] at d3
       rw [← hLB]
       have hnx:lstB X na nb (q+1)=bttC LB XX:=by rw [hLB,hXX];rfl
       have HBT:=Lib.hid (rbetter_any LB XX wr (by rw [hLB];exact lstB_sm HRI.out.cv.sm _ _ _) (by rw [hXX];exact HRI.out.cv.sm _ _ _))
       rw [← hnx] at HBT
       clear hrq hsq hcq hXX hLB hnx
       go_wp2_with fail
       refine HBT.out.mono ?_
       rintro rr w8 ⟨rfl,hb8⟩
       have HR8:=Lib.hid (HRI.out.new (Fr.of_below hb8));clear hb8 HBT
       clear d1 d2 d3 m1
       go_wp2_with fail
       go_roundw
       case rel=>exact ⟨q+1,by omega,by go_num,rfl,HR8.out⟩
       case measure=>simp [intOf];omega
      ·have hqn:q=n1:=by omega
       have hgt:¬ ((q:Int)≤(mn:Int)):=by have:=HN1.out;omega
       rw [hqn]
       go_wp2_with fail
       go_ret2
       exact ⟨HRI.out.be,.inl ⟨HV.out,HWXX.out,HWYY.out,Eq.trans (b:=Ending.returned (.tuple #[.string (lstB X na nb n1),.int .i64 0])) rfl (by rw [HCO.out];rfl)⟩⟩
end Go.Proofs.YtjekapjbigfkbaaGreatDoor
