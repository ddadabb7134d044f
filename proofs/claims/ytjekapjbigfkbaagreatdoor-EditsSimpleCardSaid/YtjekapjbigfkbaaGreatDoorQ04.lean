/- Parts of a proof: Valid Ops MM. -/
import Derived.Test.YtjekapjbigfkbaaGreatDoorProg
import Derived.Test.YtjekapjbigfkbaaGreatDoorQ00
import Derived.WalkKit
import Derived.WalkSpells
import Derived.WalkLawsBesides
import Derived.Lib.Hide
import Derived.Lib.Strings
import Derived.Test.YtjekapjbigfkbaaGreatDoorQ03
import Derived.Test.YtjekapjbigfkbaaGreatDoorQ02
import Derived.Deep.QuietTactic
import Derived.BigQuiet
namespace Go.Proofs.YtjekapjbigfkbaaGreatDoor
open Go Go.RowKit
set_option maxRecDepth 100000
theorem isEmpty_of (s:ByteArray) (h:0 < s.size):s.toList.isEmpty=false:=by
 rw [Lib.toList_data]
 cases hs:s.data.toList with
 | nil=>have:s.size=0:=by rw [← bts_len,bts,hs];rfl
        omega
 | cons a l=>rfl
theorem not_nil_of (s:ByteArray) (h:0 < s.size):¬ s.toList=[]:=by
 have:=isEmpty_of s h;intro e;rw [e] at this;simp at this
theorem nil_of (s:ByteArray) (h:s.size=0):s.toList=[]:=by
 rw [Lib.toList_data];exact List.length_eq_zero_iff.1 (by have:=bts_len s;unfold bts at this;omega)
theorem u8_ne48 (c:UInt8) (h:c≠48):((c.toNat:Int) == 48)=false:=by
 rw [beq_eq_false_iff_ne];intro e;apply h;apply UInt8.toNat_inj.1
 show c.toNat=48
 omega
theorem dgt_true {c:UInt8} (h1:(48:Int)≤(c.toNat:Int)) (h2:(c.toNat:Int)≤57):dgt c=true:=by
 simp [dgt];omega
theorem dgt_lo {c:UInt8} (h1:(c.toNat:Int) < 48):dgt c=false:=by simp [dgt];omega
theorem dgt_hi {c:UInt8} (h1:(57:Int) < (c.toNat:Int)):dgt c=false:=by simp [dgt];omega
theorem valid_loop (s:ByteArray) (w:World) (h1:1≤s.size) (h2:s.size≤1000) (h3:s.size=1∨(bts s).headD 0≠48) :
  Calls Tryz.prog 114 #[.string s] w fun e w'=>e=.returned (.bool (dgts (bts s)))∧w=w':=by
 have e1:s.toList.isEmpty=false:=isEmpty_of s h1
 have e0:¬ s.toList=[]:=not_nil_of s h1
 have hp:0 < s.size:=by omega
 have h5:decide ((1000:Int) < (s.size:Int))=false:=by simp;omega
 by_cases hs:s.size=1
 all_goals
  have h4:1 < s.size→((s[0].toNat:Int) == 48)=false:=fun h=>u8_ne48 _ (by rw [← headD_bts s hp];rcases h3 with h' | h';· omega
                                                                          ·exact h')
  try have h6:=h4 (by omega)
  clear h4
  go_enter Tryz.func114,Tryz.ntmps114
  go_wp2
  clear e0 e1 h5
  go_loop [23] (fun i=>∃ k:Nat,k≤s.size∧i=.int .i64 k∧dgts ((bts s).take k)=true) (fun i=>s.size - (intOf i).toNat)
  case atStart=>exact ⟨0,Nat.zero_le _,rfl,rfl⟩
  case round =>
   obtain ⟨k,hk,rfl,ha⟩:=hrel
   have HA:=Lib.hid ha;clear ha
   by_cases hlt:k < s.size
   ·go_wp2
    ·have hx:(57:Int) < (s[k].toNat:Int):=by omega
     go_ret
     exact ⟨ret_bool (dgts_false s k hlt (dgt_hi hx)).symm,rfl⟩
    ·have hx:(48:Int)≤(s[k].toNat:Int):=by omega
     have hy:(s[k].toNat:Int)≤57:=by omega
     go_round
     case rel=>exact ⟨k+1,by omega,by go_num,by rw [take_snoc s k hlt,dgts_snoc,HA.out,dgt_true hx hy];rfl⟩
     case measure=>simp [intOf];omega
    ·have hx:(s[k].toNat:Int) < 48:=by assumption
     go_ret
     exact ⟨ret_bool (dgts_false s k hlt (dgt_lo hx)).symm,rfl⟩
   ·go_wp2
    go_ret
    exact ⟨ret_bool (by rw [← HA.out,List.take_of_length_le (by rw [bts_len];omega)]),rfl⟩
theorem valid_any (s:ByteArray) (w:World) (hm:s.size≤maxLen) :
  Calls Tryz.prog 114 #[.string s] w fun e w'=>e=.returned (.bool (validL (bts s)))∧w=w':=by
 unfold maxLen at hm
 by_cases h1:s.size=0
 ·have e1:validL (bts s)=false:=by simp [validL,bts_len,h1]
  have e0:=nil_of s h1
  have HE:=Lib.hid e1;clear e1
  go_enter Tryz.func114,Tryz.ntmps114
  go_wp2
  go_ret
  exact ⟨ret_bool HE.out.symm,rfl⟩
 ·by_cases h2:1000 < s.size
  ·have e1:validL (bts s)=false:=by simp [validL,bts_len];intros;omega
   have HE:=Lib.hid e1;clear e1
   have e1:s.toList.isEmpty=false:=isEmpty_of s (by omega)
   have e0:¬ s.toList=[]:=not_nil_of s (by omega)
   go_enter Tryz.func114,Tryz.ntmps114
   go_wp2
   go_ret
   exact ⟨ret_bool HE.out.symm,rfl⟩
  ·by_cases h3:s.size=1∨(bts s).headD 0≠48
   ·refine (valid_loop s w (by omega) (by omega) h3).mono fun e w' ⟨he,hw⟩=>⟨?_,hw⟩
    rw [he]
    have:validL (bts s)=dgts (bts s):=by
     cases hd:dgts (bts s) with
     | false=>simp [validL,hd]
     | true=>exact valid_mk (by rw [bts_len];omega) (by rw [bts_len];omega) (by rw [bts_len];exact h3) hd
    rw [this]
   ·have e1:validL (bts s)=false:=by
     cases hv:validL (bts s) with
     | false=>rfl
     | true=>exact absurd (by have:=(valid_parts hv).2.2.1;rw [bts_len] at this;exact this) h3
    have HE:=Lib.hid e1;clear e1
    have hp:0 < s.size:=by omega
    have e1:s.toList.isEmpty=false:=isEmpty_of s (by omega)
    have e0:¬ s.toList=[]:=not_nil_of s (by omega)
    have h6:((s[0].toNat:Int) == 48)=true:=by
     have:(bts s).headD 0=48:=by
      by_cases h:(bts s).headD 0=48
      ·exact h
      ·exact absurd (Or.inr h) h3
     rw [headD_bts s hp] at this;rw [this];rfl
    have h7:1 < s.size:=by
     by_cases h:s.size=1
     ·exact absurd (Or.inl h) h3
     ·omega
    have h5:decide ((1000:Int) < (s.size:Int))=false:=by simp;omega
    clear h3
    go_enter Tryz.func114,Tryz.ntmps114
    go_wp2
    go_ret
    exact ⟨ret_bool HE.out.symm,rfl⟩
end Go.Proofs.YtjekapjbigfkbaaGreatDoor

namespace Go.Proofs.YtjekapjbigfkbaaGreatDoor
open Go Go.RowKit
set_option maxRecDepth 100000
def PairEnd (r:ByteArray × Nat) (w:World) (e:Ending) (w':World):Prop:=e=.returned (.tuple #[.string r.1,.int .i64 (r.2:Int)])∧Below w.heap.size w w'
def limS (n:Nat):ByteArray × Nat:=if (dec n).length≤1000 then (str (dec n),0) else (str [],2)
def vld (s:ByteArray):Bool:=validL (bts s)
def val (s:ByteArray):Nat:=num (bts s)
def addF (s t:ByteArray):ByteArray × Nat:=if vld s && vld t then limS (val s+val t) else (str [],1)
def subF (s t:ByteArray):ByteArray × Nat:=if vld s && vld t then (if val s < val t then (str [],4) else (str (dec (val s - val t)),0)) else (str [],1)
def mulF (s t:ByteArray):ByteArray × Nat:=if vld s && vld t then limS (val s*val t) else (str [],1)
def cmpF (s t:ByteArray):Int:=if vld s && vld t then cmpN (val s) (val t) else 0
theorem ret_si {s s':ByteArray} {a b:Int} (h:s=s') (h':a=b):Ending.returned (.tuple #[.string s,.int .i64 a])=.returned (.tuple #[.string s',.int .i64 b]):=by rw [h,h']
theorem vld_size {s:ByteArray} (h:vld s=true):1≤s.size∧s.size≤1000:=by
 obtain ⟨h1,h2,_⟩:=valid_parts h;rw [bts_len] at h1 h2;exact ⟨h1,h2⟩
theorem vld_dgts {s:ByteArray} (h:vld s=true):dgts (bts s)=true:=(valid_parts h).2.2.2
theorem num_lt_pow {l:List UInt8} (h:dgts l=true) (k:Nat) (hk:l.length≤9*k):num l < BB ^ k:=by
 have h2:10 ^ l.length≤10 ^ (9*k):=Nat.pow_le_pow_right (by omega) hk
 rw [pow9] at h2
 exact Nat.lt_of_lt_of_le (num_lt _ h) h2
theorem val_lt {s:ByteArray} (h:vld s=true):val s < BB ^ 112:=num_lt_pow (vld_dgts h) 112 (by rw [bts_len];have:=vld_size h;omega)
theorem toB_len_val {s:ByteArray} (h:vld s=true):(toB (val s)).length≤112:=toB_len_le (val_lt h)
theorem vld_any (s:ByteArray) (w:World) (hm:s.size≤maxLen) :
  Calls Tryz.prog 114 #[.string s] w fun e w'=>e=.returned (.bool (vld s))∧w=w':=valid_any s w hm
theorem blk_any (s:ByteArray) (w:World) (h:vld s=true):Calls Tryz.prog 115 #[.string s] w (BlocksEnd (val s) w):=blocks_any s w (vld_size h).2 (vld_dgts h)
theorem limited_any (vx:Value) (n:Nat) (w:World) (hx:Sl w .u64 vx (toB n)) (lx:(toB n).length≤100000) (ht:Tab w) :
  Calls Tryz.prog 116 #[vx] w (PairEnd (limS n) w):=by
 have hdl:=topB_len n (toB n).length
 have hn:(dec n).length≤900000∨n=0:=by
  by_cases h0:n=0
  ·exact .inr h0
  ·rw [topB_all n h0] at hdl;exact .inl (by omega)
 have hn':(dec n).length≤900000:=by
  rcases hn with h | h
  ·exact h
  ·subst h;rw [dec_small (by omega)];simp
 clear hdl hn
 have hsz:(str (dec n)).size≤900000:=by rw [str_size];exact hn'
 have hc:=text_any vx n w hx lx ht
 have HC:=Lib.hid hc;clear hc hx ht lx
 by_cases h:(dec n).length≤1000
 ·have hr:limS n=(str (dec n),0):=by unfold limS;rw [if_pos h]
  have hs:(str (dec n)).size≤1000:=by rw [str_size];exact h
  rw [hr];clear hr h hn'
  go_enter Tryz.func116,Tryz.ntmps116
  go_wp2_with fail
  refine HC.out.mono ?_
  rintro e w' ⟨rfl,hb⟩
  have HB:=Lib.hid hb;clear hb
  go_wp2
  go_ret2
  exact ⟨rfl,HB.out⟩
 ·have hr:limS n=(str [],2):=by unfold limS;rw [if_neg h]
  have hs:1000 < (str (dec n)).size:=by rw [str_size];omega
  rw [hr];clear hr h hn'
  go_enter Tryz.func116,Tryz.ntmps116
  go_wp2_with fail
  refine HC.out.mono ?_
  rintro e w' ⟨rfl,hb⟩
  have HB:=Lib.hid hb;clear hb
  go_wp2
  go_ret2
  exact ⟨rfl,HB.out⟩
theorem add_any (s t:ByteArray) (w:World) (hs:s.size≤maxLen) (ht:t.size≤maxLen) (htab:Tab w) :
  Calls Tryz.prog 111 #[.string s,.string t] w (PairEnd (addF s t) w):=by
 have HT:=Lib.hid htab;clear htab
 have c1:=vld_any s w hs
 have c2:=vld_any t w ht
 clear hs ht
 cases h1:vld s with
 | false =>
  have hr:addF s t=(str [],1):=by unfold addF;rw [h1];rfl
  rw [hr];rw [h1] at c1;clear hr h1 c2 HT
  have C1:=Lib.hid c1;clear c1
  go_enter Tryz.func111,Tryz.ntmps111
  go_wp2_with fail
  refine C1.out.mono ?_
  rintro e w' ⟨rfl,rfl⟩
  go_wp2
  go_ret2
  exact ⟨rfl,Below.refl _ _⟩
 | true =>
  cases h2:vld t with
  | false =>
   have hr:addF s t=(str [],1):=by unfold addF;rw [h1,h2];rfl
   rw [hr];rw [h1] at c1;rw [h2] at c2;clear hr h1 h2 HT
   have C1:=Lib.hid c1;clear c1
   have C2:=Lib.hid c2;clear c2
   go_enter Tryz.func111,Tryz.ntmps111
   go_wp2_with fail
   refine C1.out.mono ?_
   rintro e w' ⟨rfl,rfl⟩
   go_wp2_with fail
   refine C2.out.mono ?_
   rintro e w' ⟨rfl,rfl⟩
   go_wp2
   go_ret2
   exact ⟨rfl,Below.refl _ _⟩
  | true =>
   rw [h1] at c1;rw [h2] at c2
   have C1:=Lib.hid c1;clear c1
   have C2:=Lib.hid c2;clear c2
   have lm:=toB_len_val h1
   have ln:=toB_len_val h2
   have b1:=blk_any s w h1
   have B1:=Lib.hid b1;clear b1
   have b2:=fun w=>blk_any t w h2
   have B2:=Lib.hid b2;clear b2
   have H1:=Lib.hid h1;clear h1
   have H2:=Lib.hid h2;clear h2
   have hr:addF s t=limS (val s+val t):=by unfold addF;rw [H1.out,H2.out];rfl
   rw [hr];clear hr
   go_enter Tryz.func111,Tryz.ntmps111
   go_wp2_with fail
   refine C1.out.mono ?_
   rintro e w' ⟨rfl,rfl⟩
   go_wp2_with fail
   refine C2.out.mono ?_
   rintro e w' ⟨rfl,rfl⟩
   go_wp2_with fail
   refine B1.out.mono ?_
   rintro e w1 ⟨v1,rfl,ho1,hb1⟩
   have HO1:=Lib.hid ho1;clear ho1
   have HB1:=Lib.hid hb1;clear hb1
   have hz1:=HB1.out.size
   go_wp2_with fail
   refine (B2.out w1).mono ?_
   rintro e w2 ⟨v2,rfl,ho2,hb2⟩
   have HO2:=Lib.hid ho2;clear ho2
   have HB2:=Lib.hid hb2;clear hb2
   have hz2:=HB2.out.size
   have HS1:=Lib.hid (HO1.out.sl.below HB2.out (Nat.le_refl _))
   go_wp2_with fail
   refine (plus_any v1 v2 (val s) (val t) w2 HS1.out HO2.out.sl (by omega) (by omega)).mono ?_
   rintro e w3 ⟨v3,rfl,ho3,hb3⟩
   have HO3:=Lib.hid ho3;clear ho3
   have HB3:=Lib.hid hb3;clear hb3
   have HB:=Lib.hid (HB1.out.trans ((HB2.out.mono hz1).trans (HB3.out.mono (by omega))))
   have hlim:=limited_any v3 (val s+val t) w3 HO3.out.sl (by
    have h1:=val_lt H1.out
    have h2:=val_lt H2.out
    have:val s+val t < BB ^ 113:=by
     have e:BB ^ 113=BB ^ 112*BB:=Nat.pow_succ ..
     rw [e]
     have:BB ^ 112*2≤BB ^ 112*BB:=Nat.mul_le_mul_left _ BB_one
     omega
    have:=toB_len_le this
    omega) (HT.out.below HB.out (Nat.le_refl _))
   have HL:=Lib.hid hlim;clear hlim
   go_wp2_with fail
   refine HL.out.mono ?_
   rintro e w4 ⟨rfl,hb4⟩
   have HB4:=Lib.hid hb4;clear hb4
   have hz3:=HB3.out.size
   go_wp2
   go_ret2
   exact ⟨rfl,HB.out.trans (HB4.out.mono (by omega))⟩
theorem sub_any (s t:ByteArray) (w:World) (hs:s.size≤maxLen) (ht:t.size≤maxLen) (htab:Tab w) :
  Calls Tryz.prog 113 #[.string s,.string t] w (PairEnd (subF s t) w):=by
 have HT:=Lib.hid htab;clear htab
 have c1:=vld_any s w hs
 have c2:=vld_any t w ht
 clear hs ht
 cases h1:vld s with
 | false =>
  have hr:subF s t=(str [],1):=by unfold subF;rw [h1];rfl
  rw [hr];rw [h1] at c1;clear hr h1 c2 HT
  have C1:=Lib.hid c1;clear c1
  go_enter Tryz.func113,Tryz.ntmps113
  go_wp2_with fail
  refine C1.out.mono ?_
  rintro e w' ⟨rfl,rfl⟩
  go_wp2
  go_ret2
  exact ⟨rfl,Below.refl _ _⟩
 | true =>
  cases h2:vld t with
  | false =>
   have hr:subF s t=(str [],1):=by unfold subF;rw [h1,h2];rfl
   rw [hr];rw [h1] at c1;rw [h2] at c2;clear hr h1 h2 HT
   have C1:=Lib.hid c1;clear c1
   have C2:=Lib.hid c2;clear c2
   go_enter Tryz.func113,Tryz.ntmps113
   go_wp2_with fail
   refine C1.out.mono ?_
   rintro e w' ⟨rfl,rfl⟩
   go_wp2_with fail
   refine C2.out.mono ?_
   rintro e w' ⟨rfl,rfl⟩
   go_wp2
   go_ret2
   exact ⟨rfl,Below.refl _ _⟩
  | true =>
   rw [h1] at c1;rw [h2] at c2
   have C1:=Lib.hid c1;clear c1
   have C2:=Lib.hid c2;clear c2
   have lm:=toB_len_val h1
   have ln:=toB_len_val h2
   have b1:=blk_any s w h1
   have B1:=Lib.hid b1;clear b1
   have b2:=fun w=>blk_any t w h2
   have B2:=Lib.hid b2;clear b2
   have H1:=Lib.hid h1;clear h1
   have H2:=Lib.hid h2;clear h2
   by_cases hlt:val s < val t
   ·have hr:subF s t=(str [],4):=by unfold subF;rw [H1.out,H2.out,if_pos hlt];rfl
    have hc:cmpN (val s) (val t)=-1:=cmpN_lt hlt
    rw [hr];clear hr hlt
    have HC:=Lib.hid hc;clear hc
    go_enter Tryz.func113,Tryz.ntmps113
    go_wp2_with fail
    refine C1.out.mono ?_
    rintro e w' ⟨rfl,rfl⟩
    go_wp2_with fail
    refine C2.out.mono ?_
    rintro e w' ⟨rfl,rfl⟩
    go_wp2_with fail
    refine B1.out.mono ?_
    rintro e w1 ⟨v1,rfl,ho1,hb1⟩
    have HO1:=Lib.hid ho1;clear ho1
    have HB1:=Lib.hid hb1;clear hb1
    have hz1:=HB1.out.size
    go_wp2_with fail
    refine (B2.out w1).mono ?_
    rintro e w2 ⟨v2,rfl,ho2,hb2⟩
    have HO2:=Lib.hid ho2;clear ho2
    have HB2:=Lib.hid hb2;clear hb2
    have hz2:=HB2.out.size
    have HS1:=Lib.hid (HO1.out.sl.below HB2.out (Nat.le_refl _))
    have hcm:=compare_any v1 v2 (val s) (val t) w2 HS1.out HO2.out.sl
    unfold CmpEnd at hcm
    rw [HC.out] at hcm
    have HCM:=Lib.hid hcm;clear hcm
    go_wp2_with fail
    refine HCM.out.mono ?_
    rintro e w3 ⟨rfl,hb3⟩
    have HB3:=Lib.hid hb3;clear hb3
    go_wp2
    go_ret2
    exact ⟨rfl,HB1.out.trans ((HB2.out.mono hz1).trans (HB3.out.mono (by omega)))⟩
   ·have hr:subF s t=(str (dec (val s - val t)),0):=by unfold subF;rw [H1.out,H2.out,if_neg hlt];rfl
    have hc:cmpN (val s) (val t)=0∨cmpN (val s) (val t)=1:=by
     rcases Nat.lt_or_ge (val t) (val s) with h | h
     ·exact .inr (cmpN_gt h)
     ·exact .inl (cmpN_eq (by omega))
    have hle:val t≤val s:=by omega
    have HLE:=Lib.hid hle;clear hle
    rw [hr];clear hr hlt
    have hc0:∃ q:Int,cmpN (val s) (val t)=q∧0≤q:=by
     rcases hc with h | h
     ·exact ⟨0,h,by omega⟩
     ·exact ⟨1,h,by omega⟩
    obtain ⟨q,hq,hq0⟩:=hc0
    clear hc
    have HC:=Lib.hid hq;clear hq
    go_enter Tryz.func113,Tryz.ntmps113
    go_wp2_with fail
    refine C1.out.mono ?_
    rintro e w' ⟨rfl,rfl⟩
    go_wp2_with fail
    refine C2.out.mono ?_
    rintro e w' ⟨rfl,rfl⟩
    go_wp2_with fail
    refine B1.out.mono ?_
    rintro e w1 ⟨v1,rfl,ho1,hb1⟩
    have HO1:=Lib.hid ho1;clear ho1
    have HB1:=Lib.hid hb1;clear hb1
    have hz1:=HB1.out.size
    go_wp2_with fail
    refine (B2.out w1).mono ?_
    rintro e w2 ⟨v2,rfl,ho2,hb2⟩
    have HO2:=Lib.hid ho2;clear ho2
    have HB2:=Lib.hid hb2;clear hb2
    have hz2:=HB2.out.size
    have HS1:=Lib.hid (HO1.out.sl.below HB2.out (Nat.le_refl _))
    have hcm:=compare_any v1 v2 (val s) (val t) w2 HS1.out HO2.out.sl
    unfold CmpEnd at hcm
    rw [HC.out] at hcm
    have HCM:=Lib.hid hcm;clear hcm
    go_wp2_with fail
    refine HCM.out.mono ?_
    rintro e w3 ⟨rfl,hb3⟩
    have HB3:=Lib.hid hb3;clear hb3
    have hz3:=HB3.out.size
    have hmi:=minus_any v1 v2 (val s) (val t) w3 (HS1.out.below HB3.out (Nat.le_refl _)) (HO2.out.sl.below HB3.out (Nat.le_refl _)) (by omega) (by omega) HLE.out
    have HMI:=Lib.hid hmi;clear hmi
    go_wp2_with fail
    refine HMI.out.mono ?_
    rintro e w4 ⟨v4,rfl,ho4,hb4⟩
    have HO4:=Lib.hid ho4;clear ho4
    have HB4:=Lib.hid hb4;clear hb4
    have hz4:=HB4.out.size
    have HB:=Lib.hid (HB1.out.trans ((HB2.out.mono hz1).trans ((HB3.out.mono (by omega)).trans (HB4.out.mono (by omega)))))
    have htx:=text_any v4 (val s - val t) w4 HO4.out.sl (by have:=toB_len_mono (Nat.sub_le (val s) (val t));omega) (HT.out.below HB.out (Nat.le_refl _))
    have HTX:=Lib.hid htx;clear htx
    go_wp2_with fail
    refine HTX.out.mono ?_
    rintro e w5 ⟨rfl,hb5⟩
    have HB5:=Lib.hid hb5;clear hb5
    go_wp2
    go_ret2
    exact ⟨rfl,HB.out.trans (HB5.out.mono (by omega))⟩
def IntEnd (q:Int) (w:World) (e:Ending) (w':World):Prop:=e=.returned (.int .i64 q)∧Below w.heap.size w w'
theorem cmp_any (s t:ByteArray) (w:World) (hs:s.size≤maxLen) (ht:t.size≤maxLen) :
  Calls Tryz.prog 112 #[.string s,.string t] w (IntEnd (cmpF s t) w):=by
 have c1:=vld_any s w hs
 have c2:=vld_any t w ht
 clear hs ht
 cases h1:vld s with
 | false =>
  have hr:cmpF s t=0:=by unfold cmpF;rw [h1];rfl
  rw [hr];rw [h1] at c1;clear hr h1 c2
  have C1:=Lib.hid c1;clear c1
  go_enter Tryz.func112,Tryz.ntmps112
  go_wp2_with fail
  refine C1.out.mono ?_
  rintro e w' ⟨rfl,rfl⟩
  go_wp2
  go_ret
  exact ⟨rfl,Below.refl _ _⟩
 | true =>
  cases h2:vld t with
  | false =>
   have hr:cmpF s t=0:=by unfold cmpF;rw [h1,h2];rfl
   rw [hr];rw [h1] at c1;rw [h2] at c2;clear hr h1 h2
   have C1:=Lib.hid c1;clear c1
   have C2:=Lib.hid c2;clear c2
   go_enter Tryz.func112,Tryz.ntmps112
   go_wp2_with fail
   refine C1.out.mono ?_
   rintro e w' ⟨rfl,rfl⟩
   go_wp2_with fail
   refine C2.out.mono ?_
   rintro e w' ⟨rfl,rfl⟩
   go_wp2
   go_ret
   exact ⟨rfl,Below.refl _ _⟩
  | true =>
   rw [h1] at c1;rw [h2] at c2
   have C1:=Lib.hid c1;clear c1
   have C2:=Lib.hid c2;clear c2
   have lm:=toB_len_val h1
   have ln:=toB_len_val h2
   have b1:=blk_any s w h1
   have B1:=Lib.hid b1;clear b1
   have b2:=fun w=>blk_any t w h2
   have B2:=Lib.hid b2;clear b2
   have H1:=Lib.hid h1;clear h1
   have H2:=Lib.hid h2;clear h2
   have hr:cmpF s t=cmpN (val s) (val t):=by unfold cmpF;rw [H1.out,H2.out];rfl
   rw [hr];clear hr
   go_enter Tryz.func112,Tryz.ntmps112
   go_wp2_with fail
   refine C1.out.mono ?_
   rintro e w' ⟨rfl,rfl⟩
   go_wp2_with fail
   refine C2.out.mono ?_
   rintro e w' ⟨rfl,rfl⟩
   go_wp2_with fail
   refine B1.out.mono ?_
   rintro e w1 ⟨v1,rfl,ho1,hb1⟩
   have HO1:=Lib.hid ho1;clear ho1
   have HB1:=Lib.hid hb1;clear hb1
   have hz1:=HB1.out.size
   go_wp2_with fail
   refine (B2.out w1).mono ?_
   rintro e w2 ⟨v2,rfl,ho2,hb2⟩
   have HO2:=Lib.hid ho2;clear ho2
   have HB2:=Lib.hid hb2;clear hb2
   have hz2:=HB2.out.size
   have HS1:=Lib.hid (HO1.out.sl.below HB2.out (Nat.le_refl _))
   have hcm:=compare_any v1 v2 (val s) (val t) w2 HS1.out HO2.out.sl
   unfold CmpEnd at hcm
   have HCM:=Lib.hid hcm;clear hcm
   go_wp2_with fail
   refine HCM.out.mono ?_
   rintro e w3 ⟨rfl,hb3⟩
   have HB3:=Lib.hid hb3;clear hb3
   go_wp2
   go_ret
   exact ⟨rfl,HB1.out.trans ((HB2.out.mono hz1).trans (HB3.out.mono (by omega)))⟩
end Go.Proofs.YtjekapjbigfkbaaGreatDoor

namespace Go.Proofs.YtjekapjbigfkbaaGreatDoor
open Go Go.RowKit
set_option maxRecDepth 100000
theorem nth_set (L:List Nat) (j v i:Nat) (h:j < L.length):nth (L.set j v) i=if i=j then v else nth L i:=by
 unfold nth
 simp only [List.getD_eq_getElem?_getD,List.getElem?_set]
 by_cases e:j=i
 ·subst e;simp [h]
 ·rw [if_neg e,if_neg (fun e'=>e e'.symm)]
theorem small_set {L:List Nat} (h:Small L) (j v:Nat) (hv:v < BB):Small (L.set j v):=fun i=>by
 by_cases hj:j < L.length
 ·rw [nth_set L j v i hj];split
  ·exact hv
  ·exact h i
 ·rw [List.set_eq_of_length_le (by omega)];exact h i
theorem bval_set (L:List Nat):∀ (j v:Nat),j < L.length→bval (L.set j v)+BB ^ j*nth L j=bval L+BB ^ j*v:=by
 induction L with
 | nil=>intro j v h;simp at h
 | cons x L ih =>
  intro j v h
  cases j with
  | zero=>simp only [List.set_cons_zero,bval,nth_cons_zero,Nat.pow_zero];omega
  | succ j =>
   have:=ih j v (by simpa using h)
   simp only [List.set_cons_succ,bval,nth_cons_succ,Nat.pow_succ]
   have e:BB*(bval (L.set j v)+BB ^ j*nth L j)=BB*(bval L+BB ^ j*v):=by rw [this]
   rw [Nat.mul_add,Nat.mul_add,← Nat.mul_assoc,← Nat.mul_assoc,Nat.mul_comm BB (BB ^ j)] at e
   omega
theorem bval_replicate (k:Nat):bval (List.replicate k 0)=0:=bval_zero (fun i=>by unfold nth;simp [List.getD_eq_getElem?_getD,List.getElem?_replicate];split <;> rfl)
theorem small_replicate (k:Nat):Small (List.replicate k 0):=fun i=>by
 have:nth (List.replicate k 0) i=0:=by unfold nth;simp [List.getD_eq_getElem?_getD,List.getElem?_replicate];split <;> rfl
 rw [this];exact BB_pos
structure MulIn (xs ys L:List Nat) (i k c:Nat):Prop where
 small:Small L
 carry:c < BB
 len:L.length=xs.length+ys.length+1
 val:bval L+BB ^ (i+k)*c=bval (xs.take i)*bval ys+BB ^ i*(nth xs i*bval (ys.take k))
structure MulOut (xs ys L:List Nat) (i:Nat):Prop where
 small:Small L
 len:L.length=xs.length+ys.length+1
 val:bval L=bval (xs.take i)*bval ys
theorem MulOut.start (xs ys:List Nat):MulOut xs ys (List.replicate (xs.length+ys.length+1) 0) 0 :=
 ⟨small_replicate _,by simp,by rw [bval_replicate];simp [bval]⟩
theorem MulOut.inner {xs ys L:List Nat} {i:Nat} (h:MulOut xs ys L i):MulIn xs ys L i 0 0 :=
 ⟨h.small,BB_pos,h.len,by rw [h.val];simp [bval]⟩
theorem mul_p_bound {l c x y:Nat} (h1:l < BB) (h2:c < BB) (h3:x < BB) (h4:y < BB):l+c+x*y < 1000000000*1000000000:=by
 rw [BB_val] at *
 have:x*y≤999999999*999999999:=Nat.mul_le_mul (by omega) (by omega)
 omega
theorem MulIn.step {xs ys L:List Nat} {i k c:Nat} (h:MulIn xs ys L i k c) (hx:Small xs) (hy:Small ys) (hi:i < xs.length) (hk:k < ys.length+1) :
  MulIn xs ys (L.set (i+k) ((nth L (i+k)+c+nth xs i*nth ys k) % 1000000000)) i (k+1) ((nth L (i+k)+c+nth xs i*nth ys k) / 1000000000):=by
 have hb:=mul_p_bound (h.small (i+k)) h.carry (hx i) (hy k)
 have hlt:i+k < L.length:=by rw [h.len];omega
 have hset:=bval_set L (i+k) ((nth L (i+k)+c+nth xs i*nth ys k) % 1000000000) hlt
 have hval:=h.val
 have htk:=bval_take_succ ys k
 generalize hp:nth L (i+k)+c+nth xs i*nth ys k=p at *
 have hp2:BB ^ (i+k)*nth L (i+k)+BB ^ (i+k)*c+BB ^ (i+k)*(nth xs i*nth ys k)=BB ^ (i+k)*p:=by rw [← hp,Nat.mul_add,Nat.mul_add]
 have hp3:BB ^ (i+k)*p=BB ^ (i+k)*(p % 1000000000)+BB ^ (i+k)*BB*(p / 1000000000):=by
  rw [Nat.mul_assoc,← Nat.mul_add,BB_val,Nat.mod_add_div]
 refine ⟨small_set h.small _ _ (by rw [BB_val];exact Nat.mod_lt _ (by omega)),by rw [BB_val];omega,by simp [h.len],?_⟩
 rw [htk,Nat.mul_add,Nat.mul_add,show i+(k+1)=i+k+1 by omega,Nat.pow_succ BB (i+k)]
 have e:BB ^ i*(nth xs i*(BB ^ k*nth ys k))=BB ^ (i+k)*(nth xs i*nth ys k):=by
  rw [Nat.pow_add,Nat.mul_left_comm (nth xs i),Nat.mul_assoc]
 rw [e]
 omega
theorem MulIn.done {xs ys L:List Nat} {i c:Nat} (h:MulIn xs ys L i (ys.length+1) c) (hx:Small xs) (hy:Small ys) (hi:i < xs.length):MulOut xs ys L (i+1):=by
 refine ⟨h.small,h.len,?_⟩
 have hval:=h.val
 rw [take_all (by omega:ys.length≤ys.length+1)] at hval
 have e:bval (xs.take i)*bval ys+BB ^ i*(nth xs i*bval ys)=bval (xs.take (i+1))*bval ys:=by
  rw [bval_take_succ,Nat.add_mul,Nat.mul_assoc]
 rw [e] at hval
 have h1:bval (xs.take (i+1)) < BB ^ (i+1):=by
  have:=bval_lt (small_take hx (i+1));rw [List.length_take,Nat.min_eq_left (by omega)] at this;exact this
 have h2:=bval_lt hy
 have h3:bval (xs.take (i+1))*bval ys < BB ^ (i+1)*BB ^ ys.length:=by
  have h4:bval (xs.take (i+1))*bval ys≤bval (xs.take (i+1))*BB ^ ys.length:=Nat.mul_le_mul_left _ (by omega)
  have h5:bval (xs.take (i+1))*BB ^ ys.length < BB ^ (i+1)*BB ^ ys.length:=Nat.mul_lt_mul_of_pos_right h1 (Nat.pow_pos BB_pos)
  omega
 rw [← Nat.pow_add,show i+1+ys.length=i+(ys.length+1) by omega] at h3
 rcases Nat.eq_zero_or_pos c with h0 | h0
 ·subst h0;rw [Nat.mul_zero,Nat.add_zero] at hval;exact hval
 ·have:BB ^ (i+(ys.length+1))*1≤BB ^ (i+(ys.length+1))*c:=Nat.mul_le_mul_left _ h0
  omega
theorem MulOut.done {xs ys L:List Nat} (h:MulOut xs ys L xs.length):bval L=bval xs*bval ys:=by rw [h.val,List.take_length]
theorem Own.set {w:World} {B:Nat} {e:TypeId} {k:IntKind} {g n cap:Nat} {L:List Nat} (h:Own w B e k (.slice (some ⟨g,0,none⟩) n cap) L) (hn:L.length=n) (j v:Nat) :
  Own (w.setCell ⟨g,j,none⟩ (.int k (v:Int))) B e k (.slice (some ⟨g,0,none⟩) n cap) (L.set j v):=by
 subst hn
 have:=(World.ownsRow.stored h j (.int k (v:Int))).1
 have e1:(vals k L).set j (.int k (v:Int))=vals k (L.set j v):=by unfold vals;rw [List.map_set]
 rw [e1] at this
 unfold Own
 rw [List.length_set];exact this
theorem Own.base {w:World} {B:Nat} {e:TypeId} {k:IntKind} {g n cap:Nat} {off:Nat} {L:List Nat} (h:Own w B e k (.slice (some ⟨g,off,none⟩) n cap) L):B≤g∧g < w.heap.size:=by
 have:=World.ownsRow.lt h g (by simp [Value.ownBlock])
 exact this
theorem Own.cell {w:World} {B:Nat} {e:TypeId} {k:IntKind} {g n cap:Nat} {L:List Nat} (h:Own w B e k (.slice (some ⟨g,0,none⟩) n cap) L) (hn:L.length=n) (j:Nat) (hj:j < n):w.cell? ⟨g,j,none⟩=some (.int k ((nth L j:Nat):Int)):=by
 subst hn
 rw [World.ownsRow.cellAt h j (by omega),vals_get k L j hj]
theorem Own.free {w:World} {B:Nat} {e:TypeId} {k:IntKind} {g n cap:Nat} {L:List Nat} (h:Own w B e k (.slice (some ⟨g,0,none⟩) n cap) L) (hn:L.length=n) (j:Nat):w.frozen? ⟨g,j,none⟩=false:=by
 subst hn;exact World.ownsRow.frozenAt h j
theorem vals_replicate (k:IntKind) (n:Nat):vals k (List.replicate n 0)=List.replicate n (.int k 0):=by simp [vals]
end Go.Proofs.YtjekapjbigfkbaaGreatDoor
namespace Go.Proofs.YtjekapjbigfkbaaGreatDoor
open Go Go.RowKit
set_option maxRecDepth 100000
set_option maxRecDepth 100000 in
set_option maxHeartbeats 2000000 in
theorem mul_any (s t:ByteArray) (w:World) (hs:s.size≤maxLen) (ht:t.size≤maxLen) (htab:Tab w) :
  Calls Tryz.prog 71 #[.string s,.string t] w (PairEnd (mulF s t) w):=by
 have HT:=Lib.hid htab;clear htab
 have c1:=vld_any s w hs
 have c2:=vld_any t w ht
 clear hs ht
 cases h1:vld s with
 | false =>
  have hr:mulF s t=(str [],1):=by unfold mulF;rw [h1];rfl
  rw [hr];rw [h1] at c1;clear hr h1 c2 HT
  have C1:=Lib.hid c1;clear c1
  go_enter Tryz.func71,Tryz.ntmps71
  go_wp2_with fail
  refine C1.out.mono ?_
  rintro e w' ⟨rfl,rfl⟩
  go_wp2
  go_ret2
  exact ⟨rfl,Below.refl _ _⟩
 | true =>
  cases h2:vld t with
  | false =>
   have hr:mulF s t=(str [],1):=by unfold mulF;rw [h1,h2];rfl
   rw [hr];rw [h1] at c1;rw [h2] at c2;clear hr h1 h2 HT
   have C1:=Lib.hid c1;clear c1
   have C2:=Lib.hid c2;clear c2
   go_enter Tryz.func71,Tryz.ntmps71
   go_wp2_with fail
   refine C1.out.mono ?_
   rintro e w' ⟨rfl,rfl⟩
   go_wp2_with fail
   refine C2.out.mono ?_
   rintro e w' ⟨rfl,rfl⟩
   go_wp2
   go_ret2
   exact ⟨rfl,Below.refl _ _⟩
  | true =>
   rw [h1] at c1;rw [h2] at c2
   have C1:=Lib.hid c1;clear c1
   have C2:=Lib.hid c2;clear c2
   have lm:=toB_len_val h1
   have ln:=toB_len_val h2
   have b1:=blk_any s w h1
   have B1:=Lib.hid b1;clear b1
   have b2:=fun w=>blk_any t w h2
   have B2:=Lib.hid b2;clear b2
   have H1:=Lib.hid h1;clear h1
   have H2:=Lib.hid h2;clear h2
   have hr:mulF s t=limS (val s*val t):=by unfold mulF;rw [H1.out,H2.out];rfl
   rw [hr];clear hr
   go_enter Tryz.func71,Tryz.ntmps71
   go_wp2_with fail
   refine C1.out.mono ?_
   rintro e w' ⟨rfl,rfl⟩
   go_wp2_with fail
   refine C2.out.mono ?_
   rintro e w' ⟨rfl,rfl⟩
   go_wp2_with fail
   refine B1.out.mono ?_
   rintro e w1 ⟨v1,rfl,ho1,hb1⟩
   have HO1:=Lib.hid ho1;clear ho1
   have HB1:=Lib.hid hb1;clear hb1
   have hz1:=HB1.out.size
   go_wp2_with fail
   refine (B2.out w1).mono ?_
   rintro e w2 ⟨v2,rfl,ho2,hb2⟩
   have HO2:=Lib.hid ho2;clear ho2
   have HB2:=Lib.hid hb2;clear hb2
   have hz2:=HB2.out.size
   have HS1:=Lib.hid (HO1.out.sl.below HB2.out (Nat.le_refl _))
   obtain ⟨i0,ih0,iz0,iz1,iz2⟩:=info_parts info_u64
   have hms:=fun x=>small_toB (val s) x
   have hsx:Small (toB (val s)):=small_toB _
   have hsy:Small (toB (val t)):=small_toB _
   obtain ⟨xs,hxs⟩:∃ xs,xs=toB (val s):=⟨_,rfl⟩
   obtain ⟨ys,hys⟩:∃ ys,ys=toB (val t):=⟨_,rfl⟩
   rw [← hxs] at HS1 lm hsx
   rw [← hys] at HO2 ln hsy
   have HX:=Lib.hid hxs;clear hxs
   have HY:=Lib.hid hys;clear hys
   have HSX:=Lib.hid hsx;clear hsx
   have HSY:=Lib.hid hsy;clear hsy
   clear hms HO1
   obtain ⟨ax,cx,bx,ox,rfl,hax,hcx1,hcx2,hbx,hcellx⟩:=HS1.out.open
   obtain ⟨ay,cy,by',oy,rfl,hay,hcy1,hcy2,hby,hcelly⟩:=HO2.out.sl.open
   unfold maxLen at hcx2 hcy2
   have HCX:=Lib.hid hcellx;clear hcellx
   have HCY:=Lib.hid hcelly;clear hcelly
   have HAX:=Lib.hid hax;clear hax
   have HAY:=Lib.hid hay;clear hay
   have HBX:=Lib.hid hbx;clear hbx
   have HBY:=Lib.hid hby;clear hby
   obtain ⟨wm,hmk,hown,hgr⟩:=run_make_full w2 w.heap.size 151 153 i0 (.int .u64 0) 1 Tryz.underlying151 ih0 iz0 iz1 .i64 .i64 (xs.length+ys.length+1) (by rw [iz2];omega) (by unfold maxLen;omega) (by omega)
   rw [show ((xs.length+ys.length+1:Nat):Int)=(xs.length:Int)+(ys.length:Int)+1 by omega] at hmk
   have hbm:Below w.heap.size w wm:=HB1.out.trans ((HB2.out.mono hz1).trans ((Below.refl _ _).grown hgr (by omega) (by simp)))
   have hbm2:Below w2.heap.size w2 wm:=(Below.refl _ _).grown hgr (Nat.le_refl _) (by simp)
   have hL0:Own wm w.heap.size 153 .u64 (.slice (some ⟨w2.heap.size,0,none⟩) (xs.length+ys.length+1) (xs.length+ys.length+1)) (List.replicate (xs.length+ys.length+1) 0):=by
    unfold Own
    rw [vals_replicate,List.length_replicate]
    have:=hown
    rw [Nat.mul_one,show (Value.int .u64 0).cells=#[Value.int .u64 0] from rfl,toList_madeCells_one] at this
    exact this
   have HM:=Lib.hid hbm;clear hbm
   have HM2:=Lib.hid hbm2;clear hbm2
   have HL0:=Lib.hid hL0;clear hL0 hown hgr
   go_wp2
   clear hmk
   go_loopw [34] (fun i wr=>∃ (k:Nat) (L:List Nat),k≤xs.length∧i=.int .i64 k∧MulOut xs ys L k∧Own wr w.heap.size 153 .u64 (.slice (some ⟨w2.heap.size,0,none⟩) (xs.length+ys.length+1) (xs.length+ys.length+1)) L∧Below w.heap.size w wr∧Below w2.heap.size w2 wr)
    (fun i _=>xs.length - (intOf i).toNat)
   case atStart=>exact ⟨0,_,Nat.zero_le _,rfl,MulOut.start xs ys,HL0.out,HM.out,HM2.out⟩
   case round =>
    obtain ⟨i,L,hi1,rfl,hmo,hown,hbw,hbw2⟩:=hrel
    have HMO:=Lib.hid hmo;clear hmo
    have HO:=Lib.hid hown;clear hown
    have HBW:=Lib.hid hbw;clear hbw
    have HBW2:=Lib.hid hbw2;clear hbw2
    obtain ⟨wo,rfl⟩:∃ wo:World,wo=wr:=⟨_,rfl⟩
    by_cases hlt:i < xs.length
    ·obtain rfl:=HAX.out (by omega)
     have hbx:=HBX.out (by omega)
     go_wp2
     go_loopw [10,40] (fun c q wr=>∃ (k cc:Nat) (L:List Nat),k≤ys.length+1∧q=.int .i64 k∧c=.int .u64 cc∧MulIn xs ys L i k cc∧Own wr w.heap.size 153 .u64 (.slice (some ⟨w2.heap.size,0,none⟩) (xs.length+ys.length+1) (xs.length+ys.length+1)) L∧Below w.heap.size w wr∧Below w2.heap.size w2 wr)
      (fun _ q _=>ys.length+1 - (intOf q).toNat)
     case atStart=>exact ⟨0,0,L,Nat.zero_le _,rfl,rfl,HMO.out.inner,HO.out,HBW.out,HBW2.out⟩
     case round =>
      obtain ⟨k,cc,L',hk1,rfl,rfl,hmi,hown,hbw,hbw2⟩:=hrel
      have HMI:=Lib.hid hmi;clear hmi
      have HO':=Lib.hid hown;clear hown
      have HBW':=Lib.hid hbw;clear hbw
      have HBW2':=Lib.hid hbw2;clear hbw2
      by_cases hlt2:k < ys.length+1
      ·have hstep:=HMI.out.step HSX.out HSY.out hlt hlt2
       have hlen:=HMI.out.len
       have HST:=Lib.hid hstep;clear hstep
       have cl:=HO'.out.cell hlen (i+k) (by omega)
       have fl:=HO'.out.free hlen (i+k)
       have hpb:=mul_p_bound (HMI.out.small (i+k)) HMI.out.carry (HSX.out i) (HSY.out k)
       have HLEN:=Lib.hid hlen;clear hlen
       rcases Nat.lt_or_ge k ys.length with hky | hky
       ·obtain rfl:=HAY.out (by omega)
        have hby:=HBY.out (by omega)
        have c1:=(HBW2'.out.cell (p:=⟨bx,ox+i,none⟩) hbx).trans (HCX.out i hlt)
        have c2:=(HBW2'.out.cell (p:=⟨by',oy+k,none⟩) hby).trans (HCY.out k hky)
        have hmul:(((nth xs i:Nat):Int)*((nth ys k:Nat):Int))=((nth xs i*nth ys k:Nat):Int):=by simp
        have hpb2:((nth xs i:Nat):Int)*((nth ys k:Nat):Int)≤999999998000000001:=by
         have h1:=HSX.out i
         have h2:=HSY.out k
         rw [BB_val] at h1 h2
         have:nth xs i*nth ys k≤999999999*999999999:=Nat.mul_le_mul (by omega) (by omega)
         rw [hmul];omega
        have hl9:nth L' (i+k)≤999999999:=by have:=HMI.out.small (i+k);rw [BB_val] at this;omega
        have hc9:cc≤999999999:=by have:=HMI.out.carry;rw [BB_val] at this;omega
        have hpb3:0≤((nth xs i:Nat):Int)*((nth ys k:Nat):Int):=by rw [hmul];omega
        have HMU:=Lib.hid hmul;clear hmul hpb
        go_wp2_with fail
        go_quiet (fail)
        go_wp2
        go_roundw
        case rel =>
         have em:((nth L' (i+k):Nat):Int)+(cc:Int)+((nth xs i:Nat):Int)*((nth ys k:Nat):Int)=((nth L' (i+k)+cc+nth xs i*nth ys k:Nat):Int):=by rw [HMU.out];omega
         rw [em]
         have ho:=(HO'.out.kept (below_drewN (Below.refl _ wr) nq) (Nat.le_refl _)).set HLEN.out (i+k) ((nth L' (i+k)+cc+nth xs i*nth ys k) % 1000000000)
         exact ⟨k+1,_,_,by omega,by go_num,by go_num,HST.out,ho,(below_drewN HBW'.out nq).setCell HO'.out.base.1 _,(below_drewN HBW2'.out nq).setCell (Nat.le_refl _) _⟩
        case measure=>simp [intOf];omega
       ·have hz:nth ys k=0:=nth_out ys k hky
        have HST':=HST.out
        rw [hz,Nat.mul_zero,Nat.add_zero] at HST'
        rw [hz,Nat.mul_zero,Nat.add_zero] at hpb
        have HS2:=Lib.hid HST';clear HST' hz HST
        go_wp2
        go_roundw
        case rel =>
         have ho:=HO'.out.set HLEN.out (i+k) ((nth L' (i+k)+cc) % 1000000000)
         exact ⟨k+1,_,_,by omega,by go_num,by go_num,HS2.out,ho,HBW'.out.setCell HO'.out.base.1 _,HBW2'.out.setCell (Nat.le_refl _) _⟩
        case measure=>simp [intOf];omega
      ·have hkk:k=ys.length+1:=by omega
       have HKK:=Lib.hid hkk;clear hkk
       go_wp2
       go_roundw
       case rel =>
        have h1:=HMI.out
        rw [HKK.out] at h1
        exact ⟨i+1,L',by omega,by go_num,h1.done HSX.out HSY.out hlt,HO'.out,HBW'.out,HBW2'.out⟩
       case measure=>simp [intOf];omega
    ·have hii:i=xs.length:=by omega
     have HII:=Lib.hid hii;clear hii
     have hmo:=HMO.out
     rw [HII.out] at hmo
     have hsz:=HBW.out.size
     have htr:=trim_any (some ⟨w2.heap.size,0,none⟩) (xs.length+ys.length+1) L wo (by rw [hmo.len];exact HO.out.sl)
     rw [hmo.len] at htr
     have HMO':=Lib.hid hmo;clear hmo
     go_wp2_with fail
     refine htr.mono ?_
     rintro e w4 ⟨kk,hk,rfl,rfl⟩
     have HK:=Lib.hid hk;clear hk
     have hb:=HMO'.out.done
     have hprod:(toB (val s*val t))=L.take kk:=by
      rw [trimmed_toB HMO'.out.small HK.out.1 HK.out.2.1 HK.out.2.2,hb,HX.out,HY.out,bval_toB,bval_toB]
     have hkl:kk≤xs.length+ys.length+1:=by have:=HK.out.1;rw [HMO'.out.len] at this;exact this
     have hsl:Sl wo .u64 (.slice (some ⟨w2.heap.size,0,none⟩) kk (xs.length+ys.length+1)) (toB (val s*val t)):=by
      rw [hprod];exact HO.out.sl.take (by rw [HMO'.out.len];exact hkl)
     have hll:(toB (val s*val t)).length≤100000:=by rw [hprod,List.length_take];omega
     have hlim:=limited_any _ (val s*val t) wo hsl hll (HT.out.below HBW.out (Nat.le_refl _))
     have HLM:=Lib.hid hlim;clear hlim hsl hll hprod hb
     go_wp2_with fail
     refine HLM.out.mono ?_
     rintro e w5 ⟨rfl,hb5⟩
     have HB5:=Lib.hid hb5;clear hb5
     go_wp2
     go_ret2
     exact ⟨rfl,HBW.out.trans (HB5.out.mono hsz)⟩
end Go.Proofs.YtjekapjbigfkbaaGreatDoor
