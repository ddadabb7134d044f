/- Parts of a proof: MR3 MR4. -/
import Derived.Test.YtjekapjbigfkbaaGreatDoorQ14
import Derived.Test.YtjekapjbigfkbaaGreatDoorQ08
import Derived.Test.YtjekapjbigfkbaaGreatDoorQ10
import Derived.Test.YtjekapjbigfkbaaGreatDoorQ12
namespace Go.Proofs.YtjekapjbigfkbaaGreatDoor
open Go Go.RowKit
set_option maxRecDepth 100000
theorem radd_sd (m n:Nat) (w:World) (hm:fits m) (hn:fits n) (h:fits (m+n)) :
  Calls Tryz.prog 138 #[.string (str (dec m)),.string (str (dec n))] w (StrZ (str (dec (m+n))) w):=by
 have:=radd_any (str (dec m)) (str (dec n)) w (fits_size hm) (fits_size hn)
 rw [addF_fit (vld_sd hm) (vld_sd hn) (by rw [val_sd,val_sd];exact h),val_sd,val_sd] at this
 exact this
theorem rsub_sd (m n:Nat) (w:World) (hm:fits m) (hn:fits n) (h:n≤m) :
  Calls Tryz.prog 140 #[.string (str (dec m)),.string (str (dec n))] w (StrZ (str (dec (m - n))) w):=by
 have:=rsub_any (str (dec m)) (str (dec n)) w (fits_size hm) (fits_size hn)
 rw [subF_ok (vld_sd hm) (vld_sd hn) (by rw [val_sd,val_sd];exact h),val_sd,val_sd] at this
 exact this
theorem rmul_sd (m n:Nat) (w:World) (hm:fits m) (hn:fits n) (h:fits (m*n)) :
  Calls Tryz.prog 141 #[.string (str (dec m)),.string (str (dec n))] w (StrZ (str (dec (m*n))) w):=by
 have:=rmul_any (str (dec m)) (str (dec n)) w (fits_size hm) (fits_size hn)
 rw [mulF_fit (vld_sd hm) (vld_sd hn) (by rw [val_sd,val_sd];exact h),val_sd,val_sd] at this
 exact this
theorem rgcd_sd (m n:Nat) (w:World) (hm:fits m) (hn:fits n) :
  Calls Tryz.prog 137 #[.string (str (dec m)),.string (str (dec n))] w (StrZ (str (dec (Nat.gcd m n))) w):=by
 have:=rgcd_any (str (dec m)) (str (dec n)) w (fits_size hm) (fits_size hn)
 rw [gcdF_v (vld_sd hm) (vld_sd hn),val_sd,val_sd] at this
 exact this
theorem rcmp_sd (m n:Nat) (w:World) (hm:fits m) (hn:fits n) :
  Calls Tryz.prog 139 #[.string (str (dec m)),.string (str (dec n))] w (IntEnd (cmpN m n) w):=by
 have:=rcmp_any (str (dec m)) (str (dec n)) w (fits_size hm) (fits_size hn)
 unfold cmpF at this
 rw [vld_sd hm,vld_sd hn,val_sd,val_sd] at this
 exact this
theorem times_sd (m n:Nat) (w:World) (hm:fits m) (hn:fits n) (h:fits (m*n)) :
  Calls Tryz.prog 101 #[.string (str (dec m)),.string (str (dec n))] w (StrE (str (dec (m*n))) w):=by
 have hc:=rmul_sd m n w hm hn h
 have HC:=Lib.hid hc;clear hc hm hn h
 go_enter Tryz.func101,Tryz.ntmps101
 go_wp2_with fail
 refine HC.out.mono ?_
 rintro e w1 ⟨rfl,hb⟩
 have HB:=Lib.hid hb;clear hb
 go_wp2_with fail
 go_ret
 exact ⟨rfl,HB.out⟩
theorem ssum_sd (p q:Bool) (m n:Nat) (w:World) (h:fits (m+n)) :
  Calls Tryz.prog 100 #[.bool p,.string (str (dec m)),.bool q,.string (str (dec n))] w fun e w' =>
   e=.returned (.tuple #[.bool (sumF p m q n).1,.string (str (dec (sumF p m q n).2))])∧Below w.heap.size w w':=by
 have hm:fits m:=fits_le h (by omega)
 have hn:fits n:=fits_le h (by omega)
 by_cases hpq:p=q
 ·subst hpq
  have hs:sumF p m p n=(p,m+n):=by unfold sumF;rw [if_pos rfl]
  rw [hs]
  have hc:=radd_sd m n w hm hn h
  have HC:=Lib.hid hc;clear hc hm hn h hs
  have hp:(p == p)=true:=by cases p <;> rfl
  go_enter Tryz.func100,Tryz.ntmps100
  go_wp2_with fail
  refine HC.out.mono ?_
  rintro e w1 ⟨rfl,hb⟩
  have HB:=Lib.hid hb;clear hb
  go_wp2_with fail
  go_ret2
  exact ⟨rfl,HB.out⟩
 ·have hb:(p == q)=false:=by rw [beq_eq_false_iff_ne];exact hpq
  by_cases hlt:m < n
  ·have hs:sumF p m q n=(q,n - m):=by unfold sumF;rw [if_neg hpq,if_pos hlt]
   rw [hs]
   have hc:=rcmp_sd m n w hm hn
   rw [cmpN_lt hlt] at hc
   have hd:=fun w1=>rsub_sd n m w1 hn hm (Nat.le_of_lt hlt)
   have HC:=Lib.hid hc;clear hc
   have HD:=Lib.hid hd;clear hd
   clear hm hn h hs hlt hpq
   go_enter Tryz.func100,Tryz.ntmps100
   go_wp2_with fail
   refine HC.out.mono ?_
   rintro e w1 ⟨rfl,hb1⟩
   have HB1:=Lib.hid hb1;clear hb1
   go_wp2_with fail
   refine (HD.out w1).mono ?_
   rintro e w2 ⟨rfl,hb2⟩
   have HB2:=Lib.hid (HB1.out.trans (hb2.mono HB1.out.size));clear hb2
   go_wp2_with fail
   go_ret2
   exact ⟨rfl,HB2.out⟩
  ·have hs:sumF p m q n=(p,m - n):=by unfold sumF;rw [if_neg hpq,if_neg hlt]
   rw [hs]
   have hc:=rcmp_sd m n w hm hn
   have hge:0≤cmpN m n:=by
    rcases Nat.lt_or_ge n m with h1 | h1
    ·rw [cmpN_gt h1];omega
    ·rw [cmpN_eq (by omega)];omega
   generalize cmpN m n=z at hc hge
   have hd:=fun w1=>rsub_sd m n w1 hm hn (by omega)
   have HC:=Lib.hid hc;clear hc
   have HD:=Lib.hid hd;clear hd
   clear hm hn h hs hlt hpq
   go_enter Tryz.func100,Tryz.ntmps100
   go_wp2_with fail
   refine HC.out.mono ?_
   rintro e w1 ⟨rfl,hb1⟩
   have HB1:=Lib.hid hb1;clear hb1
   go_wp2_with fail
   refine (HD.out w1).mono ?_
   rintro e w2 ⟨rfl,hb2⟩
   have HB2:=Lib.hid (HB1.out.trans (hb2.mono HB1.out.size));clear hb2
   go_wp2_with fail
   go_ret2
   exact ⟨rfl,HB2.out⟩
theorem short_any (s:ByteArray) (w:World) (hs:s.size≤9223372036854775807) :
  Calls Tryz.prog 136 #[.string s] w fun e w'=>e=.returned (.bool (decide (s.size≤400) && vld s))∧w=w':=by
 have hc:=rvalid_any s w (by unfold maxLen;omega)
 have HC:=Lib.hid hc;clear hc
 by_cases h:s.size≤400
 ·have g:(s.size:Int)≤400:=by omega
  have e:(decide (s.size≤400) && vld s)=vld s:=by rw [decide_eq_true h];rfl
  rw [e];clear h e hs
  go_enter Tryz.func136,Tryz.ntmps136
  go_wp2_with fail
  refine HC.out.mono ?_
  rintro e w1 ⟨rfl,rfl⟩
  go_wp2_with fail
  go_ret
  exact ⟨rfl,rfl⟩
 ·have g:(400:Int) < (s.size:Int):=by omega
  have e:(decide (s.size≤400) && vld s)=false:=by rw [decide_eq_false h];rfl
  rw [e];clear h e hs
  go_enter Tryz.func136,Tryz.ntmps136
  go_wp2_with fail
  go_ret
  exact ⟨rfl,rfl⟩
theorem upTo_at (l:List UInt8):∀ (i:Nat),i < l.length→(∀ j,j < i→l.getD j 0≠47)→l.getD i 0=47→hasS l=true∧(upTo l).length=i:=by
 induction l with
 | nil=>intro i hi;simp at hi
 | cons a l ih =>
  intro i hi hj he
  cases i with
  | zero=>simp at he;subst he;simp [hasS,upTo]
  | succ i =>
   have ha:a≠47:=by have:=hj 0 (by omega);simpa using this
   obtain ⟨h1,h2⟩:=ih i (by simpa using hi) (fun j h=>by have:=hj (j+1) (by omega);simpa using this) (by simpa using he)
   have e2:upTo (a::l)=a::upTo l:=by simp [upTo,ha]
   refine ⟨?_,by rw [e2,List.length_cons,h2]⟩
   simp [hasS,ha] at h1 ⊢;exact h1
theorem hasS_none (l:List UInt8) (h:∀ j,j < l.length→l.getD j 0≠47):hasS l=false:=by
 simp [hasS]
 intro c hc e
 obtain ⟨j,hj,hjj⟩:=List.getElem_of_mem hc
 apply h j hj
 rw [List.getD_eq_getElem?_getD,List.getElem?_eq_getElem hj];simp [hjj,e]
theorem u8_ne47 (c:UInt8) (h:c≠47):((c.toNat:Int) == 47)=false:=by
 rw [beq_eq_false_iff_ne];intro e;apply h;apply UInt8.toNat_inj.1
 show c.toNat=47
 omega
def idxF (s:ByteArray):Int:=if hasS (bts s) then ((upTo (bts s)).length:Int) else -1
theorem index_any (s:ByteArray) (w:World) (hs:s.size≤9223372036854775807) :
  Calls Tryz.prog 135 #[.string s,.int .u8 47] w fun e w'=>e=.returned (.int .i64 (idxF s))∧Below w.heap.size w w':=by
 have g0:(s.size:Int)≤9223372036854775807:=by omega
 clear hs
 go_enter Tryz.func135,Tryz.ntmps135
 go_wp2
 go_loopw [5] (fun i wr=>∃ k:Nat,k≤s.size∧i=.int .i64 k∧(∀ j,j < k→(bts s).getD j 0≠47)∧wr=w) (fun i _=>s.size - (intOf i).toNat)
 case atStart=>exact ⟨0,Nat.zero_le _,rfl,fun j hj=>by omega,rfl⟩
 case round =>
  obtain ⟨k,hk,rfl,hj,rfl⟩:=hrel
  have HJ:=Lib.hid hj;clear hj
  by_cases hlt:k < s.size
  ·by_cases hc:s[k]=47
   ·have hcc:((s[k].toNat:Int) == 47)=true:=by rw [hc];rfl
    have hr:idxF s=k:=by
     obtain ⟨h1,h2⟩:=upTo_at (bts s) k (by rw [bts_len];exact hlt) HJ.out (by rw [bts_getD s k hlt];exact hc)
     unfold idxF;rw [h1,h2];rfl
    have HR:=Lib.hid hr;clear hr hc
    go_wp2
    go_ret
    exact ⟨ret_int HR.out.symm,Below.refl _ _⟩
   ·have hcc:((s[k].toNat:Int) == 47)=false:=u8_ne47 _ hc
    have hj2:∀ j,j < k+1→(bts s).getD j 0≠47:=by
     intro j hj
     by_cases e:j=k
     ·subst e;rw [bts_getD s j hlt];exact hc
     ·exact HJ.out j (by omega)
    have HJ2:=Lib.hid hj2;clear hj2 hc
    go_wp2
    go_roundw
    case rel=>exact ⟨k+1,by omega,by go_num,HJ2.out,by trivial⟩
    case measure=>simp [intOf];omega
  ·have hr:idxF s=-1:=by
    unfold idxF;rw [hasS_none (bts s) (fun j h=>HJ.out j (by rw [bts_len] at h;omega))];rfl
   have HR:=Lib.hid hr;clear hr
   go_wp2
   go_ret
   exact ⟨ret_int HR.out.symm,Below.refl _ _⟩
end Go.Proofs.YtjekapjbigfkbaaGreatDoor
namespace Go.Proofs.YtjekapjbigfkbaaGreatDoor
open Go Go.RowKit
set_option maxRecDepth 100000
theorem sd_zero_iff' (n:Nat):((str (dec n)).toList == [48])=decide (n=0):=by
 rw [str_eq,decide_eq_decide]
 exact ⟨fun h=>dec_inj (h.trans dec_zero.symm),fun h=>by rw [h,dec_zero]⟩
end Go.Proofs.YtjekapjbigfkbaaGreatDoor
namespace Go.Proofs.YtjekapjbigfkbaaGreatDoor
open Go Go.RowKit
set_option maxRecDepth 100000
theorem results_tmp4 {fn:Func} {t u v x:Tmp} (h:fn.results=#[.tmp t,.tmp u,.tmp v,.tmp x]) (tmps:Array Value) (P:Program) (w:World) :
  (results fn tmps).run P w=.ok (.tuple #[tmps.getD t undef,tmps.getD u undef,tmps.getD v undef,tmps.getD x undef]) w:=by
 simp [results,h]
def Quad (ok neg:Bool) (n d:ByteArray):Value:=.tuple #[.bool (ok && neg),.string (if ok then n else ⟨#[]⟩),.string (if ok then d else ⟨#[]⟩),.bool ok]
def okC (neg frac vn vd:Bool) (n d g:ByteArray):Bool:=vn && vd && !(d.toList == [48]) && !((n.toList == [48]) && (neg || frac)) && !((d.toList == [49]) && frac) && ((g.toList == [49]) || (d.toList == [49]))
theorem u8_ne45 (c:UInt8) (h:c≠45):((c.toNat:Int) == 45)=false:=by
 rw [beq_eq_false_iff_ne];intro e;apply h;apply UInt8.toNat_inj.1
 show c.toNat=45
 omega
set_option maxHeartbeats 8000000 in
theorem rparts_raw (s r n d g:ByteArray) (neg frac vn vd:Bool) (i:Nat) (w:World) (hsz:s.size≤9223372036854775807) (hrz:r.size≤9223372036854775807)
  (hs:(neg=false∧r=s∧(s.size=0∨∃ h:0 < s.size,s[0]≠45))∨(neg=true∧r=s.extract 1 s.size∧∃ h:0 < s.size,s[0]=45))
  (hf:(frac=false∧idxF r=-1∧n=r∧d=⟨#[49]⟩∧vd=true∧(g.toList == [49])=true)∨(frac=true∧idxF r=i∧i+1≤r.size∧n=r.extract 0 i∧d=r.extract (i+1) r.size))
  (c2:∀ wx,Calls Tryz.prog 135 #[.string r,.int .u8 47] wx fun e w'=>e=.returned (.int .i64 (idxF r))∧Below wx.heap.size wx w')
  (c3:∀ wx,Calls Tryz.prog 136 #[.string n] wx fun e w'=>e=.returned (.bool vn)∧wx=w')
  (c4:∀ wx,Calls Tryz.prog 136 #[.string d] wx fun e w'=>e=.returned (.bool vd)∧wx=w')
  (c5:vn=true→vd=true→∀ wx,Calls Tryz.prog 137 #[.string n,.string d] wx (StrZ g wx)) :
  Calls Tryz.prog 99 #[.string s] w fun e w'=>e=.returned (Quad (okC neg frac vn vd n d g) neg n d)∧Below w.heap.size w w':=by
 have C2:=Lib.hid c2;clear c2
 have C3:=Lib.hid c3;clear c3
 have C4:=Lib.hid c4;clear c4
 have C5:=Lib.hid c5;clear c5
 obtain ⟨EE,hee⟩:∃ E:Value,E=Quad (okC neg frac vn vd n d g) neg n d:=⟨_,rfl⟩
 rw [← hee]
 have HE:=Lib.hid hee;clear hee
 have b1:(s.size:Int)≤9223372036854775807:=by omega
 have b2:(r.size:Int)≤9223372036854775807:=by omega
 clear hsz hrz
 rcases hs with ⟨rfl,rfl,h0 | ⟨hp,h0⟩⟩ | ⟨rfl,hr,hp,h0⟩
 ·-- empty
  rcases hf with ⟨rfl,hix,rfl,rfl,rfl,hgg⟩ | ⟨rfl,hix,hi,hn,hd⟩
  ·have HIX:=Lib.hid hix;clear hix
   go_enter Tryz.func99,Tryz.ntmps99
   go_wp2_with fail
   refine (C2.out _).mono ?_
   rintro e w2 ⟨rfl,hb2⟩
   have HB2:=Lib.hid hb2;clear hb2
   rw [HIX.out]
   go_wp2_with fail
   refine (C3.out _).mono ?_
   rintro e w' ⟨rfl,rfl⟩
   cases vn
   ·-- no numerator
    go_wp2_with fail
    refine bodyPost_ret (results_tmp4 rfl _ _ _) rfl ⟨?_,HB2.out⟩
    rw [HE.out];simp [okC,Quad, *]
   ·go_wp2_with fail
    refine (C4.out _).mono ?_
    rintro e w' ⟨rfl,rfl⟩
    cases hz:(n.toList == [48])
    ·-- some
     go_wp2_with fail
     refine (C5.out (by trivial) (by trivial) _).mono ?_
     rintro e w3 ⟨rfl,hb3⟩
     have HB3:=Lib.hid (HB2.out.trans (hb3.mono HB2.out.size));clear hb3
     go_wp2_with fail
     refine bodyPost_ret (results_tmp4 rfl _ _ _) rfl ⟨?_,HB3.out⟩
     rw [HE.out];simp [okC,Quad, *]
    ·-- 0
     go_wp2_with fail
     refine (C5.out (by trivial) (by trivial) _).mono ?_
     rintro e w3 ⟨rfl,hb3⟩
     have HB3:=Lib.hid (HB2.out.trans (hb3.mono HB2.out.size));clear hb3
     go_wp2_with fail
     refine bodyPost_ret (results_tmp4 rfl _ _ _) rfl ⟨?_,HB3.out⟩
     rw [HE.out];simp [okC,Quad, *]
  ·exact absurd hi (by omega)
 ·have h45:((r[0].toNat:Int) == 45)=false:=u8_ne45 _ h0
  clear h0
  rcases hf with ⟨rfl,hix,rfl,rfl,rfl,hgg⟩ | ⟨rfl,hix,hi,hn,hd⟩
  ·have HIX:=Lib.hid hix;clear hix
   go_enter Tryz.func99,Tryz.ntmps99
   go_wp2_with fail
   refine (C2.out _).mono ?_
   rintro e w2 ⟨rfl,hb2⟩
   have HB2:=Lib.hid hb2;clear hb2
   rw [HIX.out]
   go_wp2_with fail
   refine (C3.out _).mono ?_
   rintro e w' ⟨rfl,rfl⟩
   cases vn
   ·-- no numerator
    go_wp2_with fail
    refine bodyPost_ret (results_tmp4 rfl _ _ _) rfl ⟨?_,HB2.out⟩
    rw [HE.out];simp [okC,Quad, *]
   ·go_wp2_with fail
    refine (C4.out _).mono ?_
    rintro e w' ⟨rfl,rfl⟩
    cases hz:(n.toList == [48])
    ·-- some
     go_wp2_with fail
     refine (C5.out (by trivial) (by trivial) _).mono ?_
     rintro e w3 ⟨rfl,hb3⟩
     have HB3:=Lib.hid (HB2.out.trans (hb3.mono HB2.out.size));clear hb3
     go_wp2_with fail
     refine bodyPost_ret (results_tmp4 rfl _ _ _) rfl ⟨?_,HB3.out⟩
     rw [HE.out];simp [okC,Quad, *]
    ·-- 0
     go_wp2_with fail
     refine (C5.out (by trivial) (by trivial) _).mono ?_
     rintro e w3 ⟨rfl,hb3⟩
     have HB3:=Lib.hid (HB2.out.trans (hb3.mono HB2.out.size));clear hb3
     go_wp2_with fail
     refine bodyPost_ret (results_tmp4 rfl _ _ _) rfl ⟨?_,HB3.out⟩
     rw [HE.out];simp [okC,Quad, *]
  ·have HIX:=Lib.hid hix;clear hix
   have hi0:(0:Int)≤(i:Int):=by omega
   have hi1:(i:Int)≤(r.size:Int):=by omega
   have hi2:(0:Int)≤(i:Int)+1:=by omega
   have hi3:(i:Int)+1≤(r.size:Int):=by omega
   have hi4:IntKind.i64.wrap ((i:Int)+1)=(i:Int)+1:=by rw [IntKind.wrap_i64];omega
   have HN:=Lib.hid hn.symm;clear hn
   have HD:=Lib.hid hd.symm;clear hd hi
   go_enter Tryz.func99,Tryz.ntmps99
   go_wp2_with fail
   refine (C2.out _).mono ?_
   rintro e w2 ⟨rfl,hb2⟩
   have HB2:=Lib.hid hb2;clear hb2
   rw [HIX.out]
   go_wp2_with fail
   rw [HN.out,HD.out]
   refine (C3.out _).mono ?_
   rintro e w' ⟨rfl,rfl⟩
   cases vn
   ·-- no numerator
    go_wp2_with fail
    refine bodyPost_ret (results_tmp4 rfl _ _ _) rfl ⟨?_,HB2.out⟩
    rw [HE.out];simp [okC,Quad, *]
   ·go_wp2_with fail
    refine (C4.out _).mono ?_
    rintro e w' ⟨rfl,rfl⟩
    cases vd
    ·-- no denominator
     go_wp2_with fail
     refine bodyPost_ret (results_tmp4 rfl _ _ _) rfl ⟨?_,HB2.out⟩
     rw [HE.out];simp [okC,Quad, *]
    ·cases hd0:(d.toList == [48])
     ·-- not 0
      cases hz:(n.toList == [48])
      ·-- some
       cases hd1:(d.toList == [49])
       ·-- a denominator
        go_wp2_with fail
        refine (C5.out (by trivial) (by trivial) _).mono ?_
        rintro e w3 ⟨rfl,hb3⟩
        have HB3:=Lib.hid (HB2.out.trans (hb3.mono HB2.out.size));clear hb3
        cases hg:(g.toList == [49])
        ·-- no
         go_wp2_with fail
         refine bodyPost_ret (results_tmp4 rfl _ _ _) rfl ⟨?_,HB3.out⟩
         rw [HE.out];simp [okC,Quad, *]
        ·-- lowest terms
         go_wp2_with fail
         refine bodyPost_ret (results_tmp4 rfl _ _ _) rfl ⟨?_,HB3.out⟩
         rw [HE.out];simp [okC,Quad, *]
       ·-- 1
        go_wp2_with fail
        refine bodyPost_ret (results_tmp4 rfl _ _ _) rfl ⟨?_,HB2.out⟩
        rw [HE.out];simp [okC,Quad, *]
      ·-- 0
       go_wp2_with fail
       refine bodyPost_ret (results_tmp4 rfl _ _ _) rfl ⟨?_,HB2.out⟩
       rw [HE.out];simp [okC,Quad, *]
     ·-- 0
      go_wp2_with fail
      refine bodyPost_ret (results_tmp4 rfl _ _ _) rfl ⟨?_,HB2.out⟩
      rw [HE.out];simp [okC,Quad, *]
 ·have h45:((s[0].toNat:Int) == 45)=true:=by rw [h0];rfl
  have HR:=Lib.hid hr.symm;clear hr h0
  have hp1:(1:Int)≤(s.size:Int):=by omega
  rcases hf with ⟨rfl,hix,rfl,rfl,rfl,hgg⟩ | ⟨rfl,hix,hi,hn,hd⟩
  ·have HIX:=Lib.hid hix;clear hix
   go_enter Tryz.func99,Tryz.ntmps99
   go_wp2_with fail
   rw [HR.out]
   refine (C2.out _).mono ?_
   rintro e w2 ⟨rfl,hb2⟩
   have HB2:=Lib.hid hb2;clear hb2
   rw [HIX.out]
   go_wp2_with fail
   refine (C3.out _).mono ?_
   rintro e w' ⟨rfl,rfl⟩
   cases vn
   ·-- no numerator
    go_wp2_with fail
    refine bodyPost_ret (results_tmp4 rfl _ _ _) rfl ⟨?_,HB2.out⟩
    rw [HE.out];simp [okC,Quad, *]
   ·go_wp2_with fail
    refine (C4.out _).mono ?_
    rintro e w' ⟨rfl,rfl⟩
    cases hz:(n.toList == [48])
    ·-- some
     go_wp2_with fail
     refine (C5.out (by trivial) (by trivial) _).mono ?_
     rintro e w3 ⟨rfl,hb3⟩
     have HB3:=Lib.hid (HB2.out.trans (hb3.mono HB2.out.size));clear hb3
     go_wp2_with fail
     refine bodyPost_ret (results_tmp4 rfl _ _ _) rfl ⟨?_,HB3.out⟩
     rw [HE.out];simp [okC,Quad, *]
    ·-- 0
     go_wp2_with fail
     refine bodyPost_ret (results_tmp4 rfl _ _ _) rfl ⟨?_,HB2.out⟩
     rw [HE.out];simp [okC,Quad, *]
  ·have HIX:=Lib.hid hix;clear hix
   have hi0:(0:Int)≤(i:Int):=by omega
   have hi1:(i:Int)≤(r.size:Int):=by omega
   have hi2:(0:Int)≤(i:Int)+1:=by omega
   have hi3:(i:Int)+1≤(r.size:Int):=by omega
   have hi4:IntKind.i64.wrap ((i:Int)+1)=(i:Int)+1:=by rw [IntKind.wrap_i64];omega
   have HN:=Lib.hid hn.symm;clear hn
   have HD:=Lib.hid hd.symm;clear hd hi
   go_enter Tryz.func99,Tryz.ntmps99
   go_wp2_with fail
   rw [HR.out]
   refine (C2.out _).mono ?_
   rintro e w2 ⟨rfl,hb2⟩
   have HB2:=Lib.hid hb2;clear hb2
   rw [HIX.out]
   go_wp2_with fail
   rw [HN.out,HD.out]
   refine (C3.out _).mono ?_
   rintro e w' ⟨rfl,rfl⟩
   cases vn
   ·-- no numerator
    go_wp2_with fail
    refine bodyPost_ret (results_tmp4 rfl _ _ _) rfl ⟨?_,HB2.out⟩
    rw [HE.out];simp [okC,Quad, *]
   ·go_wp2_with fail
    refine (C4.out _).mono ?_
    rintro e w' ⟨rfl,rfl⟩
    cases vd
    ·-- no denominator
     go_wp2_with fail
     refine bodyPost_ret (results_tmp4 rfl _ _ _) rfl ⟨?_,HB2.out⟩
     rw [HE.out];simp [okC,Quad, *]
    ·cases hd0:(d.toList == [48])
     ·-- not 0
      cases hz:(n.toList == [48])
      ·-- some
       cases hd1:(d.toList == [49])
       ·-- a denominator
        go_wp2_with fail
        refine (C5.out (by trivial) (by trivial) _).mono ?_
        rintro e w3 ⟨rfl,hb3⟩
        have HB3:=Lib.hid (HB2.out.trans (hb3.mono HB2.out.size));clear hb3
        cases hg:(g.toList == [49])
        ·-- no
         go_wp2_with fail
         refine bodyPost_ret (results_tmp4 rfl _ _ _) rfl ⟨?_,HB3.out⟩
         rw [HE.out];simp [okC,Quad, *]
        ·-- lowest terms
         go_wp2_with fail
         refine bodyPost_ret (results_tmp4 rfl _ _ _) rfl ⟨?_,HB3.out⟩
         rw [HE.out];simp [okC,Quad, *]
       ·-- 1
        go_wp2_with fail
        refine bodyPost_ret (results_tmp4 rfl _ _ _) rfl ⟨?_,HB2.out⟩
        rw [HE.out];simp [okC,Quad, *]
      ·-- 0
       go_wp2_with fail
       refine bodyPost_ret (results_tmp4 rfl _ _ _) rfl ⟨?_,HB2.out⟩
       rw [HE.out];simp [okC,Quad, *]
     ·-- 0
      go_wp2_with fail
      refine bodyPost_ret (results_tmp4 rfl _ _ _) rfl ⟨?_,HB2.out⟩
      rw [HE.out];simp [okC,Quad, *]
end Go.Proofs.YtjekapjbigfkbaaGreatDoor
namespace Go.Proofs.YtjekapjbigfkbaaGreatDoor
open Go Go.RowKit
set_option maxRecDepth 100000
def partsV (o:Option Rat):Value:=match o with
 | some q=>.tuple #[.bool (negQ q),.string (str (dec q.num.natAbs)),.string (str (dec q.den)),.bool true]
 | none=>.tuple #[.bool false,.string ⟨#[]⟩,.string ⟨#[]⟩,.bool false]
theorem cut_left {r:ByteArray} (h:hasS (bts r)=true):r.extract 0 (upTo (bts r)).length=str (upTo (bts r)):=by
 have hsp:=hasS_split _ h
 apply bts_inj;rw [bts_extract,bts_str];conv=>lhs;arg 2;arg 2;rw [hsp]
 rw [List.take_left,List.drop_zero]
theorem cut_right {r:ByteArray} (h:hasS (bts r)=true):r.extract ((upTo (bts r)).length+1) r.size=str (pastL (bts r)):=by
 have hsp:=hasS_split _ h
 apply bts_inj;rw [bts_extract,bts_str,List.take_of_length_le (by rw [bts_len];omega)]
 conv=>lhs;arg 2;rw [hsp]
 rw [← List.drop_drop,List.drop_left];rfl
theorem cut_size {r:ByteArray} (h:hasS (bts r)=true):(upTo (bts r)).length+1≤r.size:=by
 have hsp:=congrArg List.length (hasS_split _ h)
 rw [bts_len,List.length_append,List.length_cons] at hsp;omega
theorem bool_ok (vn vd ln ld n0 d0 d1 g1 neg:Bool) (h:vn=true→vd=true→n0=true→g1=true→d1=true) :
  ((ln && vn) && (ld && vd) && !d0 && !(n0 && (neg || true)) && !(d1 && true) && (g1 || d1))=(vn && vd && ln && ld && !(neg && n0) && !(true && (d0 || d1)) && g1):=by
 cases vn <;> cases vd <;> cases n0 <;> cases g1 <;> cases d1 <;> cases ln <;> cases ld <;> cases d0 <;> cases neg <;> first | rfl | (simp at h)
theorem bool_ok' (vn ln n0 neg:Bool):((ln && vn) && true && !false && !(n0 && (neg || false)) && !(true && false) && (true || true))=(vn && true && ln && true && !(neg && n0) && !(false && (false || true)) && true):=by
 cases vn <;> cases n0 <;> cases ln <;> cases neg <;> rfl
theorem dec_is_one (n:Nat):decide (dec n=[49])=decide (n=1):=by
 rw [decide_eq_decide];exact ⟨fun h=>dec_inj (h.trans dec_one.symm),fun h=>by rw [h,dec_one]⟩
theorem list_beq (l r:List UInt8):(l == r)=decide (l=r):=by rw [Bool.eq_iff_iff];simp
set_option maxHeartbeats 1000000 in
theorem sparts_any (s:ByteArray) (w:World) (hs:s.size≤9223372036854775807) :
  Calls Tryz.prog 99 #[.string s] w fun e w'=>e=.returned (partsV (prs s))∧Below w.heap.size w w':=by
 obtain ⟨r,hr⟩:∃ r,r=str (restL (bts s)):=⟨_,rfl⟩
 have hbr:bts r=restL (bts s):=by rw [hr,bts_str]
 have hrz:r.size≤s.size:=by
  rw [← bts_len,hbr];unfold restL;split
  ·rw [List.length_tail,bts_len];omega
  ·rw [bts_len];omega
 have hdz:(str (denL (bts r))).size≤9223372036854775807:=by
  rw [str_size];unfold denL;split
  ·rename_i h
   have:=congrArg List.length (hasS_split _ h)
   rw [bts_len,List.length_append,List.length_cons] at this;omega
  ·show 1≤_;omega
 have hnz:(str (upTo (bts r))).size≤9223372036854775807:=by
  rw [str_size]
  have:=(List.takeWhile_sublist (· != 47) (l:=bts r)).length_le
  rw [bts_len] at this;unfold upTo;omega
 have hc:=rparts_raw s r (str (upTo (bts r))) (str (denL (bts r))) (str (dec (Nat.gcd (num (upTo (bts r))) (num (denL (bts r)))))) (isNeg (bts s)) (hasS (bts r))
  (decide ((str (upTo (bts r))).size≤400) && vld (str (upTo (bts r)))) (decide ((str (denL (bts r))).size≤400) && vld (str (denL (bts r)))) (upTo (bts r)).length w hs (by omega) ?_ ?_
  (fun wx=>index_any r wx (by omega)) (fun wx=>short_any _ wx hnz) (fun wx=>short_any _ wx hdz)
  (fun h1 h2 wx=>by
   simp only [Bool.and_eq_true,decide_eq_true_eq] at h1 h2
   have v1:validL (upTo (bts r))=true:=by have:=h1.2;unfold vld at this;rw [bts_str] at this;exact this
   have v2:validL (denL (bts r))=true:=by have:=h2.2;unfold vld at this;rw [bts_str] at this;exact this
   have e1:=dec_num v1
   have e2:=dec_num v2
   have f1:fits (num (upTo (bts r))):=by unfold fits;rw [e1];exact (valid_parts v1).2.1
   have f2:fits (num (denL (bts r))):=by unfold fits;rw [e2];exact (valid_parts v2).2.1
   have:=rgcd_sd _ _ wx f1 f2
   rw [e1,e2] at this;exact this)
 ·refine hc.mono ?_
  rintro e w' ⟨rfl,hb⟩
  refine ⟨?_,hb⟩
  have hok:okC (isNeg (bts s)) (hasS (bts r)) (decide ((str (upTo (bts r))).size≤400) && vld (str (upTo (bts r)))) (decide ((str (denL (bts r))).size≤400) && vld (str (denL (bts r)))) (str (upTo (bts r))) (str (denL (bts r))) (str (dec (Nat.gcd (num (upTo (bts r))) (num (denL (bts r))))))
    = okP (isNeg (bts s)) (upTo (bts r)) (denL (bts r)) (hasS (bts r)):=by
   unfold okC okP vld
   rw [str_eq,str_eq,str_eq,str_eq,str_size,str_size,bts_str,bts_str,dec_is_one,list_beq,list_beq,list_beq]
   cases hf:hasS (bts r)
   ·have hd:denL (bts r)=[49]:=by unfold denL;rw [hf];rfl
    rw [hd]
    have e1:decide (Nat.gcd (num (upTo (bts r))) (num [49])=1)=true:=by
     rw [decide_eq_true_eq];show Nat.gcd _ 1=1;exact Nat.gcd_one_right _
    have e2:validL [49]=true:=by decide
    rw [e1,e2]
    exact bool_ok' _ _ _ _
   ·refine bool_ok _ _ _ _ _ _ _ _ _ ?_
    intro h1 h2 h3 h4
    rw [decide_eq_true_eq] at h3 h4 ⊢
    rw [h3] at h4
    have:num (denL (bts r))=1:=by rw [show num [48]=0 from rfl,Nat.gcd_zero_left] at h4;exact h4
    rw [← dec_num h2,this,dec_one]
  rw [hok,hbr]
  cases hk:okP (isNeg (bts s)) (upTo (restL (bts s))) (denL (restL (bts s))) (hasS (restL (bts s)))
  ·have hp:prs s=none:=by unfold prs prsL;rw [hk];rfl
   rw [hp];rfl
  ·have hp:prs s=some (mkRat (sg (isNeg (bts s)) (num (upTo (restL (bts s))))) (num (denL (restL (bts s))))):=by unfold prs prsL;rw [hk];rfl
   have hq:=(prsL_some hp).2
   rw [hp]
   simp only [partsV,hq.sign,hq.top,hq.bot];rfl
 ·by_cases h0:s.size=0
  ·have hl:bts s=[]:=List.length_eq_zero_iff.1 (by rw [bts_len];exact h0)
   left;refine ⟨by rw [hl];rfl,?_,.inl h0⟩
   rw [hr,hl];apply bts_inj;rw [bts_str,hl];rfl
  ·have hp:0 < s.size:=by omega
   have hh:=headD_bts s hp
   by_cases h45:s[0]=45
   ·right
    have hn:isNeg (bts s)=true:=by unfold isNeg;rw [hh,h45];rfl
    refine ⟨hn,?_,hp,h45⟩
    rw [hr];apply bts_inj
    rw [bts_str,bts_extract,List.take_of_length_le (by rw [bts_len];omega)]
    unfold restL;rw [hn];cases bts s <;> rfl
   ·left
    have hn:isNeg (bts s)=false:=by unfold isNeg;rw [hh,beq_eq_false_iff_ne];exact h45
    refine ⟨hn,?_,.inr ⟨hp,h45⟩⟩
    rw [hr];unfold restL;rw [hn];exact str_bts s
 ·cases hf:hasS (bts r)
  ·left
   have hd:denL (bts r)=[49]:=by unfold denL;rw [hf];rfl
   refine ⟨rfl,by unfold idxF;rw [hf];rfl,by rw [hasS_not _ hf,str_bts],by rw [hd];rfl,?_,?_⟩
   ·rw [hd];decide
   ·rw [hd,str_eq,dec_is_one,decide_eq_true_eq];exact Nat.gcd_one_right _
  ·right
   have hd:denL (bts r)=pastL (bts r):=by unfold denL;rw [hf];rfl
   exact ⟨rfl,by unfold idxF;rw [hf];rfl,cut_size hf,(cut_left hf).symm,by rw [hd];exact (cut_right hf).symm⟩
theorem svalid_any (a:ByteArray) (w:World) (ha:a.size≤9223372036854775807) :
  Calls Tryz.prog 92 #[.string a] w fun e w'=>e=.returned (.bool (prs a).isSome)∧Below w.heap.size w w':=by
 have hc:=sparts_any a w ha
 cases h1:prs a with
 | none =>
  rw [h1] at hc;simp only [partsV] at hc
  have HC:=Lib.hid hc;clear hc h1 ha
  go_enter Tryz.func92,Tryz.ntmps92
  go_wp2_with fail
  refine HC.out.mono ?_
  rintro e w' ⟨rfl,hb⟩
  have HB:=Lib.hid hb;clear hb
  go_wp2_with fail
  go_ret
  exact ⟨rfl,HB.out⟩
 | some q =>
  rw [h1] at hc;simp only [partsV] at hc
  have HC:=Lib.hid hc;clear hc h1 ha
  go_enter Tryz.func92,Tryz.ntmps92
  go_wp2_with fail
  refine HC.out.mono ?_
  rintro e w' ⟨rfl,hb⟩
  have HB:=Lib.hid hb;clear hb
  go_wp2_with fail
  go_ret
  exact ⟨rfl,HB.out⟩
set_option maxHeartbeats 4000000 in
theorem scmp_any (a b:ByteArray) (w:World) (ha:a.size≤9223372036854775807) (hb:b.size≤9223372036854775807) :
  Calls Tryz.prog 93 #[.string a,.string b] w (IntEnd (qcmpF a b) w):=by
 have c1:=fun wx=>sparts_any a wx ha
 have c2:=fun wx=>sparts_any b wx hb
 clear ha hb
 cases h1:prs a with
 | none =>
  have hr:qcmpF a b=0:=by unfold qcmpF;rw [h1]
  rw [hr];rw [h1] at c1;simp only [partsV] at c1
  have C1:=Lib.hid c1;clear c1 h1 hr
  cases h2:prs b
  ·rw [h2] at c2;simp only [partsV] at c2
   have C2:=Lib.hid c2;clear c2 h2
   go_enter Tryz.func93,Tryz.ntmps93
   go_wp2_with fail
   refine (C1.out _).mono ?_
   rintro e w1 ⟨rfl,hb⟩
   have HB1:=Lib.hid (hb);clear hb
   go_wp2_with fail
   refine (C2.out _).mono ?_
   rintro e w2 ⟨rfl,hb⟩
   have HB2:=Lib.hid (HB1.out.trans (hb.mono HB1.out.size));clear hb
   go_wp2_with fail
   go_ret
   exact ⟨rfl,HB2.out⟩
  ·rw [h2] at c2;simp only [partsV] at c2
   have C2:=Lib.hid c2;clear c2 h2
   go_enter Tryz.func93,Tryz.ntmps93
   go_wp2_with fail
   refine (C1.out _).mono ?_
   rintro e w1 ⟨rfl,hb⟩
   have HB1:=Lib.hid (hb);clear hb
   go_wp2_with fail
   refine (C2.out _).mono ?_
   rintro e w2 ⟨rfl,hb⟩
   have HB2:=Lib.hid (HB1.out.trans (hb.mono HB1.out.size));clear hb
   go_wp2_with fail
   go_ret
   exact ⟨rfl,HB2.out⟩
 | some x =>
  rw [h1] at c1;simp only [partsV] at c1
  have C1:=Lib.hid c1;clear c1
  have hx:=(txt_prs h1).2
  cases h2:prs b with
  | none =>
   have hr:qcmpF a b=0:=by unfold qcmpF;rw [h1,h2]
   rw [hr];rw [h2] at c2;simp only [partsV] at c2
   have C2:=Lib.hid c2;clear c2 h1 h2 hr hx
   go_enter Tryz.func93,Tryz.ntmps93
   go_wp2_with fail
   refine (C1.out _).mono ?_
   rintro e w1 ⟨rfl,hb⟩
   have HB1:=Lib.hid (hb);clear hb
   go_wp2_with fail
   refine (C2.out _).mono ?_
   rintro e w2 ⟨rfl,hb⟩
   have HB2:=Lib.hid (HB1.out.trans (hb.mono HB1.out.size));clear hb
   go_wp2_with fail
   go_ret
   exact ⟨rfl,HB2.out⟩
  | some y =>
   rw [h2] at c2;simp only [partsV] at c2
   have C2:=Lib.hid c2;clear c2
   have hy:=(txt_prs h2).2
   have f1:fits (x.num.natAbs*y.den):=fits_mul hx.1 hy.2
   have f2:fits (y.num.natAbs*x.den):=fits_mul hy.1 hx.2
   have f3:fits (x.num.natAbs*y.den+y.num.natAbs*x.den):=fits_sum hx.1 hy.2 hy.1 hx.2
   have hr:qcmpF a b=cmpQ x y:=by unfold qcmpF;rw [h1,h2]
   rw [hr,cmp_mk x y]
   have c3:=fun wx=>times_sd _ _ wx (fit_num hx) (fit_den hy) f1
   have c4:=fun wx=>times_sd _ _ wx (fit_num hy) (fit_den hx) f2
   have c5:=fun wx=>ssum_sd (negQ x) (!negQ y) _ _ wx f3
   generalize sumF (negQ x) (x.num.natAbs*y.den) (!negQ y) (y.num.natAbs*x.den)=r at *
   obtain ⟨rs,rk⟩:=r
   have hk:=sd_zero_iff' rk
   simp only at c5 hk ⊢
   have C3:=Lib.hid c3;clear c3
   have C4:=Lib.hid c4;clear c4
   have C5:=Lib.hid c5;clear c5 h1 h2 hr hx hy f1 f2 f3
   by_cases h0:rk=0
   ·rw [decide_eq_true h0] at hk
    rw [if_pos h0];clear h0
    go_enter Tryz.func93,Tryz.ntmps93
    go_wp2_with fail
    refine (C1.out _).mono ?_
    rintro e w1 ⟨rfl,hb⟩
    have HB1:=Lib.hid (hb);clear hb
    go_wp2_with fail
    refine (C2.out _).mono ?_
    rintro e w2 ⟨rfl,hb⟩
    have HB2:=Lib.hid (HB1.out.trans (hb.mono HB1.out.size));clear hb
    go_wp2_with fail
    refine (C3.out _).mono ?_
    rintro e w3 ⟨rfl,hb⟩
    have HB3:=Lib.hid (HB2.out.trans (hb.mono HB2.out.size));clear hb
    go_wp2_with fail
    refine (C4.out _).mono ?_
    rintro e w4 ⟨rfl,hb⟩
    have HB4:=Lib.hid (HB3.out.trans (hb.mono HB3.out.size));clear hb
    go_wp2_with fail
    refine (C5.out _).mono ?_
    rintro e w5 ⟨rfl,hb⟩
    have HB5:=Lib.hid (HB4.out.trans (hb.mono HB4.out.size));clear hb
    go_wp2_with fail
    go_ret
    exact ⟨rfl,HB5.out⟩
   ·rw [decide_eq_false h0] at hk
    rw [if_neg h0];clear h0
    cases rs
    ·simp only [Bool.false_eq_true,if_false]
     go_enter Tryz.func93,Tryz.ntmps93
     go_wp2_with fail
     refine (C1.out _).mono ?_
     rintro e w1 ⟨rfl,hb⟩
     have HB1:=Lib.hid (hb);clear hb
     go_wp2_with fail
     refine (C2.out _).mono ?_
     rintro e w2 ⟨rfl,hb⟩
     have HB2:=Lib.hid (HB1.out.trans (hb.mono HB1.out.size));clear hb
     go_wp2_with fail
     refine (C3.out _).mono ?_
     rintro e w3 ⟨rfl,hb⟩
     have HB3:=Lib.hid (HB2.out.trans (hb.mono HB2.out.size));clear hb
     go_wp2_with fail
     refine (C4.out _).mono ?_
     rintro e w4 ⟨rfl,hb⟩
     have HB4:=Lib.hid (HB3.out.trans (hb.mono HB3.out.size));clear hb
     go_wp2_with fail
     refine (C5.out _).mono ?_
     rintro e w5 ⟨rfl,hb⟩
     have HB5:=Lib.hid (HB4.out.trans (hb.mono HB4.out.size));clear hb
     go_wp2_with fail
     go_ret
     exact ⟨rfl,HB5.out⟩
    ·simp only [if_true]
     go_enter Tryz.func93,Tryz.ntmps93
     go_wp2_with fail
     refine (C1.out _).mono ?_
     rintro e w1 ⟨rfl,hb⟩
     have HB1:=Lib.hid (hb);clear hb
     go_wp2_with fail
     refine (C2.out _).mono ?_
     rintro e w2 ⟨rfl,hb⟩
     have HB2:=Lib.hid (HB1.out.trans (hb.mono HB1.out.size));clear hb
     go_wp2_with fail
     refine (C3.out _).mono ?_
     rintro e w3 ⟨rfl,hb⟩
     have HB3:=Lib.hid (HB2.out.trans (hb.mono HB2.out.size));clear hb
     go_wp2_with fail
     refine (C4.out _).mono ?_
     rintro e w4 ⟨rfl,hb⟩
     have HB4:=Lib.hid (HB3.out.trans (hb.mono HB3.out.size));clear hb
     go_wp2_with fail
     refine (C5.out _).mono ?_
     rintro e w5 ⟨rfl,hb⟩
     have HB5:=Lib.hid (HB4.out.trans (hb.mono HB4.out.size));clear hb
     go_wp2_with fail
     go_ret
     exact ⟨rfl,HB5.out⟩
end Go.Proofs.YtjekapjbigfkbaaGreatDoor

namespace Go.Proofs.YtjekapjbigfkbaaGreatDoor
open Go Go.RowKit
set_option maxRecDepth 100000
end Go.Proofs.YtjekapjbigfkbaaGreatDoor
namespace Go.Proofs.YtjekapjbigfkbaaGreatDoor
open Go Go.RowKit
set_option maxRecDepth 100000
end Go.Proofs.YtjekapjbigfkbaaGreatDoor
namespace Go.Proofs.YtjekapjbigfkbaaGreatDoor
open Go Go.RowKit
set_option maxRecDepth 100000
end Go.Proofs.YtjekapjbigfkbaaGreatDoor
