/- Parts of a proof: MR1. -/
import Derived.Test.YtjekapjbigfkbaaGreatDoorQ04
import Derived.Test.YtjekapjbigfkbaaGreatDoorQ06
import Derived.Test.YtjekapjbigfkbaaGreatDoorQ07
namespace Go.Proofs.YtjekapjbigfkbaaGreatDoor
open Go Go.RowKit
set_option maxRecDepth 100000
theorem rvalid_loop (s:ByteArray) (w:World) (h1:1≤s.size) (h2:s.size≤1000) (h3:s.size=1∨(bts s).headD 0≠48) :
  Calls Tryz.prog 142 #[.string s] w fun e w'=>e=.returned (.bool (dgts (bts s)))∧w=w':=by
 have hp:0 < s.size:=by omega
 have h5:decide ((s.size:Int) < 1)=false:=by simp;omega
 have h5':decide ((1000:Int) < (s.size:Int))=false:=by simp;omega
 have hlen:((s[0].toNat:Int) == 48)=false∨(((s[0].toNat:Int) == 48)=true∧decide ((1:Int) < (s.size:Int))=false):=by
  rcases h3 with h | h
  ·by_cases hc:s[0].toNat=48
   ·right;exact ⟨by rw [beq_iff_eq];omega,by simp;omega⟩
   ·left;rw [beq_eq_false_iff_ne];omega
  ·left;exact u8_ne48 _ (by rw [← headD_bts s hp];exact h)
 clear h3
 rcases hlen with h6 | ⟨h6,h7⟩
 all_goals
  go_enter Tryz.func142,Tryz.ntmps142
  go_wp2_with fail
  clear h5 h5' h6
  try clear h7
  go_loop [3] (fun i=>∃ k:Nat,k≤s.size∧i=.int .i64 k∧dgts ((bts s).take k)=true) (fun i=>s.size - (intOf i).toNat)
  case atStart=>exact ⟨0,Nat.zero_le _,rfl,rfl⟩
  case round =>
   obtain ⟨k,hk,rfl,ha⟩:=hrel
   have HA:=Lib.hid ha;clear ha
   by_cases hlt:k < s.size
   ·by_cases hlo:(s[k].toNat:Int) < 48
    ·go_wp2_with fail
     go_ret
     exact ⟨ret_bool (dgts_false s k hlt (dgt_lo hlo)).symm,rfl⟩
    ·by_cases hhi:(57:Int) < (s[k].toNat:Int)
     ·have hlo':decide ((s[k].toNat:Int) < 48)=false:=by simp;omega
      go_wp2_with fail
      go_ret
      exact ⟨ret_bool (dgts_false s k hlt (dgt_hi hhi)).symm,rfl⟩
     ·have hlo':decide ((s[k].toNat:Int) < 48)=false:=by simp;omega
      have hhi':decide ((57:Int) < (s[k].toNat:Int))=false:=by simp;omega
      go_wp2_with fail
      go_round
      case rel=>exact ⟨k+1,by omega,by go_num,by rw [take_snoc s k hlt,dgts_snoc,HA.out,dgt_true (by omega) (by omega)];rfl⟩
      case measure=>simp [intOf];omega
   ·go_wp2_with fail
    go_ret
    exact ⟨ret_bool (by rw [← HA.out,List.take_of_length_le (by rw [bts_len];omega)]),rfl⟩
theorem rvalid_any (s:ByteArray) (w:World) (hm:s.size≤maxLen) :
  Calls Tryz.prog 142 #[.string s] w fun e w'=>e=.returned (.bool (validL (bts s)))∧w=w':=by
 unfold maxLen at hm
 by_cases h1:s.size=0
 ·have e1:validL (bts s)=false:=by simp [validL,bts_len,h1]
  have h5:decide ((s.size:Int) < 1)=true:=by simp;omega
  have HE:=Lib.hid e1;clear e1
  have h6:(s.size:Int) < 1:=by omega
  clear h1
  go_enter Tryz.func142,Tryz.ntmps142
  go_wp2_with fail
  go_ret
  exact ⟨ret_bool HE.out.symm,rfl⟩
 ·by_cases h2:1000 < s.size
  ·have e1:validL (bts s)=false:=by simp [validL,bts_len];intros;omega
   have HE:=Lib.hid e1;clear e1
   have h5:decide ((s.size:Int) < 1)=false:=by simp;omega
   have h6:(1000:Int) < (s.size:Int):=by omega
   clear h1 h2
   go_enter Tryz.func142,Tryz.ntmps142
   go_wp2_with fail
   go_ret
   exact ⟨ret_bool HE.out.symm,rfl⟩
  ·by_cases h3:s.size=1∨(bts s).headD 0≠48
   ·refine (rvalid_loop s w (by omega) (by omega) h3).mono fun e w' ⟨he,hw⟩=>⟨?_,hw⟩
    rw [he]
    have:validL (bts s)=dgts (bts s):=by
     cases hd:dgts (bts s) with
     | false=>simp [validL,hd]
     | true=>exact valid_mk (by rw [bts_len];omega) (by rw [bts_len];omega) (by rw [bts_len];exact h3) hd
    rw [this]
   ·have e1:validL (bts s)=false:=by
     cases hv:validL (bts s) with
     | false=>rfl
     | true=>exact absurd (by have:=(valid_parts hv).2.2.1;rw [bts_len] at this;exact this) h3
    have HE:=Lib.hid e1;clear e1
    have hp:0 < s.size:=by omega
    have h6:((s[0].toNat:Int) == 48)=true:=by
     have:(bts s).headD 0=48:=by
      by_cases h:(bts s).headD 0=48
      ·exact h
      ·exact absurd (Or.inr h) h3
     rw [headD_bts s hp] at this;rw [this];rfl
    have h7:(1:Int) < (s.size:Int):=by
     by_cases h:s.size=1
     ·exact absurd (Or.inl h) h3
     ·omega
    have h5:decide ((s.size:Int) < 1)=false:=by simp;omega
    have h5':decide ((1000:Int) < (s.size:Int))=false:=by simp;omega
    clear h1 h2 h3
    go_enter Tryz.func142,Tryz.ntmps142
    go_wp2_with fail
    go_ret
    exact ⟨ret_bool HE.out.symm,rfl⟩
end Go.Proofs.YtjekapjbigfkbaaGreatDoor
namespace Go.Proofs.YtjekapjbigfkbaaGreatDoor
open Go Go.RowKit
set_option maxRecDepth 100000
def dval:List Nat→Nat | []=>0 | x::xs=>x+10*dval xs
def Dig (xs:List Nat):Prop:=∀ i,nth xs i < 10
theorem dig_nil:Dig []:=fun i=>by rw [nth_out _ _ (Nat.zero_le _)];omega
theorem dig_snoc {x:Nat} {xs:List Nat} (h:Dig xs) (hx:x < 10):Dig (xs++[x]):=fun i=>by
 by_cases h1:i < xs.length
 ·rw [nth_append_left _ _ _ h1];exact h i
 ·rw [nth_append_right _ _ _ (by omega)]
  cases i - xs.length with
  | zero=>exact hx
  | succ j=>show 0 < 10;omega
theorem dig_take {xs:List Nat} (h:Dig xs) (k:Nat):Dig (xs.take k):=fun i=>by
 by_cases h1:i < k
 ·rw [nth_take _ _ _ h1];exact h i
 ·rw [nth_out _ _ (by rw [List.length_take];omega)];omega
theorem dval_append (xs ys:List Nat):dval (xs++ys)=dval xs+10 ^ xs.length*dval ys:=by
 induction xs with
 | nil=>simp [dval]
 | cons x xs ih=>simp only [List.cons_append,dval,ih,List.length_cons,Nat.pow_succ];rw [Nat.mul_add,Nat.mul_comm (10 ^ xs.length) 10,Nat.mul_assoc];omega
theorem dval_snoc (xs:List Nat) (x:Nat):dval (xs++[x])=dval xs+10 ^ xs.length*x:=by rw [dval_append];simp [dval]
theorem dval_take_succ (xs:List Nat) (k:Nat):dval (xs.take (k+1))=dval (xs.take k)+10 ^ k*nth xs k:=by
 by_cases h:k < xs.length
 ·rw [take_snocN xs k h,dval_snoc,List.length_take,Nat.min_eq_left (by omega)]
 ·rw [List.take_of_length_le (by omega),List.take_of_length_le (by omega),nth_out xs k (by omega)];simp
theorem dval_zero {xs:List Nat} (h:∀ i,nth xs i=0):dval xs=0:=by
 induction xs with
 | nil=>rfl
 | cons x xs ih=>simp only [dval];rw [ih (fun i=>h (i+1)),show x=0 from h 0]
theorem dval_lt {xs:List Nat} (h:Dig xs):dval xs < 10 ^ xs.length:=by
 induction xs with
 | nil=>simp [dval]
 | cons x xs ih =>
  have h1:=h 0
  rw [nth_cons_zero] at h1
  have:=ih (fun i=>h (i+1))
  simp only [dval,List.length_cons,Nat.pow_succ];omega
theorem dval_take_zeros {xs:List Nat} {k:Nat} (hz:∀ j,k≤j→nth xs j=0):dval (xs.take k)=dval xs:=by
 have h:=dval_append (xs.take k) (xs.drop k)
 rw [List.take_append_drop] at h
 rw [h,dval_zero (xs:=xs.drop k) (fun i=>by rw [nth_drop];exact hz _ (by omega))]
 simp
def byteOf (d:Nat):UInt8:=UInt8.ofNat (48+d)
theorem byteOf_toNat {d:Nat} (h:d < 10):(byteOf d).toNat=48+d:=u8n (by omega)
def bytesOf (xs:List Nat):List UInt8:=xs.reverse.map byteOf
theorem bytesOf_snoc (xs:List Nat) (x:Nat):bytesOf (xs++[x])=byteOf x::bytesOf xs:=by simp [bytesOf]
theorem bytesOf_len (xs:List Nat):(bytesOf xs).length=xs.length:=by simp [bytesOf]
theorem bytesOf_cons (x:Nat) (xs:List Nat):bytesOf (x::xs)=bytesOf xs++[byteOf x]:=by simp [bytesOf]
theorem num_bytesOf {xs:List Nat} (h:Dig xs):num (bytesOf xs)=dval xs∧dgts (bytesOf xs)=true:=by
 induction xs with
 | nil=>exact ⟨rfl,rfl⟩
 | cons x xs ih =>
  obtain ⟨i1,i2⟩:=ih (fun i=>h (i+1))
  have hx:x < 10:=h 0
  rw [bytesOf_cons,num_snoc,dgts_snoc,i1,i2,byteOf_toNat hx]
  refine ⟨by simp only [dval];omega,?_⟩
  simp only [dgt,byteOf_toNat hx];simp;omega
theorem dec_bytesOf {xs:List Nat} (h:Dig xs) {k:Nat} (hk1:1≤k) (hk:k≤xs.length) (hz:∀ j,k≤j→nth xs j=0) (ht:k=1∨nth xs (k - 1)≠0) :
  dec (dval xs)=bytesOf (xs.take k):=by
 rw [← dval_take_zeros hz,← (num_bytesOf (dig_take h k)).1]
 have hl:(bytesOf (xs.take k)).length=k:=by rw [bytesOf_len,List.length_take];omega
 have hd:=(num_bytesOf (dig_take h k)).2
 rcases ht with rfl | ht
 ·obtain ⟨x,hx⟩:∃ x,xs.take 1=[x]:=by
   cases xs with
   | nil=>simp at hk
   | cons x xs=>exact ⟨x,rfl⟩
  have hx10:x < 10:=by have:=dig_take h 1 0;rw [hx] at this;exact this
  rw [hx]
  show dec (num [byteOf x])=[byteOf x]
  have:num [byteOf x]=x:=by simp only [num,List.foldl];rw [byteOf_toNat hx10];omega
  rw [this,dec_small hx10];rfl
 ·refine (dec_num_pos k _ hl (by omega) ?_ hd).2
  have e:xs.take k=xs.take (k - 1)++[nth xs (k - 1)]:=by
   have:=take_snocN xs (k - 1) (by omega)
   rwa [show k - 1+1=k by omega] at this
  rw [e,bytesOf_snoc,List.headD_cons]
  intro hc
  have:=congrArg UInt8.toNat hc
  rw [byteOf_toNat (h (k - 1))] at this
  simp at this
  exact ht this
def digL (l:List UInt8):List Nat:=l.reverse.map fun c=>c.toNat - 48
theorem digL_len (l:List UInt8):(digL l).length=l.length:=by simp [digL]
theorem digL_ok {l:List UInt8} (h:dgts l=true):Dig (digL l)∧dval (digL l)=num l:=by
 suffices h':∀ (k:Nat) (l:List UInt8),l.length=k→dgts l=true→Dig (digL l)∧dval (digL l)=num l from h' _ l rfl h
 intro k
 induction k with
 | zero=>intro l h1 _;have:l=[]:=List.length_eq_zero_iff.1 h1
         subst this;exact ⟨dig_nil,rfl⟩
 | succ k ih =>
  intro l h1 h2
  obtain ⟨m,c,rfl⟩:=list_snoc l (by intro e;subst e;simp at h1)
  rw [dgts_snoc] at h2
  simp only [Bool.and_eq_true,dgt,decide_eq_true_eq] at h2
  simp at h1
  obtain ⟨i1,i2⟩:=ih m h1 h2.1
  have e:digL (m++[c])=(c.toNat - 48)::digL m:=by simp [digL]
  rw [e,num_snoc]
  refine ⟨fun i=>?_,by simp only [dval];omega⟩
  cases i with
  | zero=>show c.toNat - 48 < 10;omega
  | succ i=>exact i1 i
theorem digL_nth (s:ByteArray) (i:Nat) (h:i < s.size):nth (digL (bts s)) i=s[s.size - 1 - i].toNat - 48:=by
 rw [nth_get _ _ (by rw [digL_len,bts_len];exact h)]
 unfold digL
 rw [List.getElem_map,List.getElem_reverse]
 congr 2
end Go.Proofs.YtjekapjbigfkbaaGreatDoor
namespace Go.Proofs.YtjekapjbigfkbaaGreatDoor
open Go Go.RowKit
set_option maxRecDepth 100000
theorem info_int:(Tryz.prog.info? 3).map (fun i=>(i.zero,i.size,i.bytes))=some (some (.int .i64 0),1,8):=by kernel_rfl
theorem info_u8:(Tryz.prog.info? 5).map (fun i=>(i.zero,i.size,i.bytes))=some (some (.int .u8 0),1,1):=by kernel_rfl
def ListEnd (xs:List Nat) (w:World) (e:Ending) (w':World):Prop:=∃ v,e=.returned v∧Own w' w.heap.size 3 .i64 v xs∧Below w.heap.size w w'
theorem rdigits_any (s:ByteArray) (w:World) (hs:s.size≤100000) (hd:dgts (bts s)=true) :
  Calls Tryz.prog 170 #[.string s] w (ListEnd (digL (bts s)) w):=by
 obtain ⟨i0,hi,hz0,hz1,hz2⟩:=info_parts info_int
 have HD:=Lib.hid hd;clear hd
 have hll:=digL_len (bts s)
 rw [bts_len] at hll
 have HLL:=Lib.hid hll;clear hll
 go_enter Tryz.func170,Tryz.ntmps170
 go_wp2_with fail
 go_loopw [3,4] (fun v i wr=>∃ k:Nat,k≤s.size∧i=.int .i64 ((s.size:Int) - 1 - (k:Int))∧Own wr w.heap.size 3 .i64 v ((digL (bts s)).take k)∧Below w.heap.size w wr) (fun _ i _=>(intOf i+1).toNat)
 case atStart=>exact ⟨0,Nat.zero_le _,by go_num,Own.nil _ _ _ _,Below.refl _ _⟩
 case round =>
  obtain ⟨k,hk,rfl,hown,hb⟩:=hrel
  have hlen:((digL (bts s)).take k).length=k:=by rw [List.length_take,HLL.out];omega
  obtain ⟨ad,cap,rfl⟩:=hown.shape
  rw [hlen] at hown ⊢
  have HO:=Lib.hid hown;clear hown
  have HB:=Lib.hid hb;clear hb
  have hsz:=HB.out.size
  have HLEN:=Lib.hid hlen;clear hlen
  by_cases hlt:k < s.size
  ·have hd:=dgts_get HD.out (s.size - 1 - k) (by rw [bts_len];omega)
   rw [bts_get s _ (by omega)] at hd
   have hd1:(48:Int)≤(s[s.size - 1 - k].toNat:Int):=by omega
   have hd2:(s[s.size - 1 - k].toNat:Int)≤57:=by omega
   have hnth:=digL_nth s k hlt
   have hts:(digL (bts s)).take (k+1)=(digL (bts s)).take k++[s[s.size - 1 - k].toNat - 48]:=by rw [take_snocN _ _ (by rw [HLL.out];exact hlt),hnth]
   have HTS:=Lib.hid hts;clear hts hnth hd
   have hraw:wr.ownsRow w.heap.size 3 1 (.slice ad k cap) k (vals .i64 ((digL (bts s)).take k)):=by have:=HO.out.raw;rwa [HLEN.out] at this
   have HRAW:=Lib.hid hraw;clear hraw
   have hce:((s[s.size - 1 - k].toNat:Int) - 48)=((s[s.size - 1 - k].toNat - 48:Nat):Int):=by omega
   have HCE:=Lib.hid hce;clear hce
   go_wp2_with (at_builtin;refine wpList_append_own _ rfl (.tmp 12) (.tmp 18) 27 rfl w.heap.size 3 i0 (.int .i64 0) 1 8 Tryz.underlying27 hi hz0 hz1 hz2 rfl (by decide) _ _ _ rfl (World.ownsRow.alloc HRAW.out _) ⟨wr.heap.size,0,none⟩ 1 1 [.int .i64 ((s[s.size - 1 - k].toNat:Int) - 48)] rfl rfl (cell_one_new _ _ _) (one_cell _ _) (by unfold maxLen;omega) (by omega) (by simp;omega) ?_;intro v' w1 hown1 hgrow1 _)
   rw [HCE.out] at hown1
   obtain ⟨ho,hb⟩:=HO.out.appended HB.out hsz (by rw [HLEN.out];exact hown1) hgrow1
   clear hown1 hgrow1
   rw [← HTS.out] at ho
   have HO1:=Lib.hid ho;clear ho
   have HB1:=Lib.hid hb;clear hb
   go_wp2_with fail
   go_roundw
   case rel=>exact ⟨k+1,by omega,by go_num,HO1.out,HB1.out⟩
   case measure=>simp [intOf];omega
  ·go_wp2_with fail
   go_ret
   have hkk:k=s.size:=by omega
   have ho:=HO.out
   have e:(digL (bts s)).take k=digL (bts s):=List.take_of_length_le (by rw [HLL.out];omega)
   rw [e] at ho
   exact ⟨_,rfl,ho,HB.out⟩
theorem rat_any (v:Value) (xs:List Nat) (i:Nat) (w:World) (h:Sl w .i64 v xs) (hi:i≤1000000) :
  Calls Tryz.prog 171 #[v,.int .i64 (i:Int)] w fun e w'=>e=.returned (.int .i64 ((nth xs i:Nat):Int))∧w=w':=by
 obtain ⟨ax,cx,bx,ox,rfl,hax,hcx1,hcx2,hbx,hcellx⟩:=h.open
 unfold maxLen at hcx2
 clear h
 by_cases hlt:i < xs.length
 ·obtain rfl:=hax (by omega)
  have hc:=hcellx i hlt
  clear hcellx hbx
  go_enter Tryz.func171,Tryz.ntmps171
  go_wp2_with fail
  go_ret
  exact ⟨rfl,rfl⟩
 ·have hz:=nth_out xs i (by omega)
  have HZ:=Lib.hid hz;clear hz hcellx hax hbx
  go_enter Tryz.func171,Tryz.ntmps171
  go_wp2_with fail
  go_ret
  exact ⟨ret_int (by rw [HZ.out];rfl),rfl⟩
theorem bytes_step (xs:List Nat) {k m:Nat} (hk:k≤xs.length) (hm0:0 < m) (hm:m≤k) (h9:nth xs (m - 1) < 10) :
  (bytesOf ((xs.take k).drop (m - 1))).map (·.toNat)=(bytesOf ((xs.take k).drop m)).map (·.toNat)++[48+nth xs (m - 1)]:=by
 rw [List.drop_eq_getElem_cons (by rw [List.length_take];omega),show m - 1+1=m by omega,bytesOf_cons,List.map_append]
 congr 1
 have e:(xs.take k)[m - 1]'(by rw [List.length_take];omega)=nth xs (m - 1):=by
  rw [nth_get xs _ (by omega)];simp
 rw [e]
 simp [byteOf_toNat h9]
theorem own_bytes {w:World} {B g cap n:Nat} {l:List UInt8} (h:Own w B 5 .u8 (.slice (some ⟨g,0,none⟩) n cap) (l.map (·.toNat))) (hn:l.length=n) :
  ∀ (j:Nat) (hj:j < l.length),w.cell? ((⟨g,0,none⟩:Addr).add j)=some (.int .u8 ((l[j].toNat:Nat):Int)):=fun j hj=>by
 have hc:=h.cell (by rw [List.length_map];exact hn) j (by omega)
 have e:(⟨g,0,none⟩:Addr).add j=⟨g,j,none⟩:=by unfold Addr.add;split <;> simp_all
 rw [e,hc,nth_get _ _ (by rw [List.length_map];exact hj),List.getElem_map]
set_option maxHeartbeats 1000000 in
theorem rtext_any (v:Value) (xs:List Nat) (w:World) (h:Sl w .i64 v xs) (hd:Dig xs) (hl:xs.length≤100000) :
  Calls Tryz.prog 173 #[v] w fun e w'=>e=.returned (.string (str (dec (dval xs))))∧Below w.heap.size w w':=by
 obtain ⟨i0,hi,hz0,hz1,hz2⟩:=info_parts info_u8
 obtain ⟨ax,cx,bx,ox,rfl,hax,hcx1,hcx2,hbx,hcellx⟩:=h.open
 unfold maxLen at hcx2
 have HDG:=Lib.hid hd;clear hd h
 have HAX:=Lib.hid hax;clear hax
 have HCX:=Lib.hid hcellx;clear hcellx
 have HBX:=Lib.hid hbx;clear hbx
 go_enter Tryz.func173,Tryz.ntmps173
 go_wp2_with fail
 go_loopw [3] (fun n wr=>∃ k:Nat,k≤xs.length∧n=.int .i64 (k:Int)∧(∀ j,k≤j→nth xs j=0)∧(1≤xs.length→1≤k)∧Below w.heap.size w wr) (fun n _=>(intOf n).toNat)
 case atStart=>exact ⟨xs.length,Nat.le_refl _,rfl,fun j hj=>nth_out xs j hj,fun h=>h,Below.refl _ _⟩
 case round =>
  obtain ⟨k,hk,rfl,hz,hk1,hb⟩:=hrel
  have HZ:=Lib.hid hz;clear hz
  have HK1:=Lib.hid hk1;clear hk1
  have HB:=Lib.hid hb;clear hb
  by_cases hgt:1 < k
  ·obtain rfl:=HAX.out (by omega)
   have hbx:=HBX.out (by omega)
   have hc:=(HB.out.cell (p:=⟨bx,ox+(k - 1),none⟩) hbx).trans (HCX.out (k - 1) (by omega))
   have hg:(1:Int) < (k:Int):=by omega
   by_cases h0:nth xs (k - 1)=0
   ·have hb0:(((nth xs (k - 1):Nat):Int) == 0)=true:=by rw [beq_iff_eq];omega
    have HH:=Lib.hid h0;clear h0
    go_wp2_with fail
    go_roundw
    case rel=>exact ⟨k - 1,by omega,by go_num,fun j hj=>by
     by_cases e:j=k - 1
     ·rw [e];exact HH.out
     ·exact HZ.out j (by omega),fun _=>by omega,HB.out⟩
    case measure=>simp [intOf];omega
   ·have hb0:(((nth xs (k - 1):Nat):Int) == 0)=false:=by rw [beq_eq_false_iff_ne];omega
    have HH:=Lib.hid h0;clear h0
    have htop:k=0∨k=1∨nth xs (k - 1)≠0:=.inr (.inr HH.out)
    have HTOP:=Lib.hid htop;clear htop
    obtain ⟨wo,rfl⟩:∃ wo:World,wo=wr:=⟨_,rfl⟩
    have HKK:=Lib.hid hk
    go_wp2_with fail
    go_loopw [4,5] (fun v i wr=>∃ m:Nat,m≤k∧i=.int .i64 ((m:Int) - 1)∧Own wr w.heap.size 5 .u8 v ((bytesOf ((xs.take k).drop m)).map (·.toNat))∧Below w.heap.size w wr) (fun _ i _=>(intOf i+1).toNat)
    case atStart=>exact ⟨k,Nat.le_refl _,rfl,by rw [List.drop_of_length_le (by rw [List.length_take];omega)];exact Own.nil _ _ _ _,HB.out⟩
    case round =>
     obtain ⟨m,hm,rfl,hown,hb2⟩:=hrel
     have hblen:((bytesOf ((xs.take k).drop m)).map (·.toNat)).length=k - m:=by rw [List.length_map,bytesOf_len,List.length_drop,List.length_take];omega
     obtain ⟨ad,cap,rfl⟩:=hown.shape
     rw [hblen] at hown ⊢
     have HO:=Lib.hid hown;clear hown
     have HB2:=Lib.hid hb2;clear hb2
     have hsz:=HB2.out.size
     have HLEN:=Lib.hid hblen;clear hblen
     by_cases hm0:0 < m
     ·skip
      have hbx2:=HBX.out (by omega)
      have hc2:=(HB2.out.cell (p:=⟨bx,ox+(m - 1),none⟩) hbx2).trans (HCX.out (m - 1) (by omega))
      have hd9:((nth xs (m - 1):Nat):Int)≤9:=by have:=HDG.out (m - 1);omega
      have hts:=bytes_step xs hk hm0 hm (HDG.out (m - 1))
      have HTS:=Lib.hid hts;clear hts
      have hraw:wr.ownsRow w.heap.size 5 1 (.slice ad (k - m) cap) (k - m) (vals .u8 ((bytesOf ((xs.take k).drop m)).map (·.toNat))):=by have:=HO.out.raw;rwa [HLEN.out] at this
      have HRAW:=Lib.hid hraw;clear hraw
      have hce:(48+((nth xs (m - 1):Nat):Int))=((48+nth xs (m - 1):Nat):Int):=by omega
      have HCE:=Lib.hid hce;clear hce
      go_wp2_with (at_builtin;refine wpList_append_own _ rfl (.tmp 26) (.tmp 33) 191 rfl w.heap.size 5 i0 (.int .u8 0) 1 1 Tryz.underlying191 hi hz0 hz1 hz2 rfl (by decide) _ _ _ rfl (World.ownsRow.alloc HRAW.out _) ⟨wr.heap.size,0,none⟩ 1 1 [.int .u8 (48+((nth xs (m - 1):Nat):Int))] rfl rfl (cell_one_new _ _ _) (one_cell _ _) (by unfold maxLen;omega) (by omega) (by simp;omega) ?_;intro v' w1 hown1 hgrow1 _)
      rw [HCE.out] at hown1
      obtain ⟨ho,hb⟩:=HO.out.appended HB2.out hsz (by rw [HLEN.out];exact hown1) hgrow1
      clear hown1 hgrow1
      rw [← HTS.out] at ho
      have HO1:=Lib.hid ho;clear ho
      have HB1:=Lib.hid hb;clear hb
      go_wp2_with fail
      go_roundw
      case rel=>exact ⟨m - 1,by omega,by go_num,HO1.out,HB1.out⟩
      case measure=>simp [intOf];omega
     ·obtain rfl:m=0:=by omega
      rw [List.drop_zero] at HO
      rw [Nat.sub_zero,List.drop_zero] at HLEN
      rw [Nat.sub_zero]
      rcases Nat.eq_zero_or_pos k with hk0 | hk0
      ·have hb0:(((k:Nat):Int) == 0)=true:=by rw [beq_iff_eq];omega
       have hres:str (dec (dval xs))=⟨#[48]⟩:=by
        have:xs=[]:=List.length_eq_zero_iff.1 (by
         rcases Nat.eq_zero_or_pos xs.length with h | h
         ·exact h
         ·have:=HK1.out h;omega)
        rw [this];show str (dec 0)=_;rw [dec_small (by omega)];rfl
       have HR:=Lib.hid hres;clear hres hk0
       go_wp2_with fail
       go_ret
       exact ⟨ret_str HR.out.symm,HB2.out⟩
      ·have hb0:(((k:Nat):Int) == 0)=false:=by rw [beq_eq_false_iff_ne];omega
       have ho:=HO.out
       rw [Nat.sub_zero] at ho
       obtain ⟨g,cap',hv,_⟩:=ho.some (by rw [HLEN.out];exact hk0)
       rw [HLEN.out] at hv
       simp only [Value.slice.injEq,true_and] at hv
       obtain ⟨rfl,rfl⟩:=hv
       have hcv:=run_convert_bytes_back (P:=Tryz.prog) wr 191 9 5 ⟨g,0,none⟩ cap (bytesOf (xs.take k)) Tryz.underlying191 Tryz.underlying5 Tryz.underlying9 (own_bytes ho (by rw [List.length_map] at HLEN;exact HLEN.out))
       have hbl:(bytesOf (xs.take k)).length=k:=by have:=HLEN.out;rwa [List.length_map] at this
       rw [hbl] at hcv
       have hres:(⟨(bytesOf (xs.take k)).toArray⟩:ByteArray)=str (dec (dval xs)):=by
        have ht2:k=1∨nth xs (k - 1)≠0:=by
         rcases HTOP.out with h | h | h
         ·omega
         ·exact .inl h
         ·exact .inr h
        rw [dec_bytesOf HDG.out hk0 HKK.out HZ.out ht2];rfl
       rw [hres] at hcv
       clear hbl hres ho hk0
       go_wp2_with fail
       go_ret
       exact ⟨rfl,HB2.out⟩
  ·have hg:decide ((1:Int) < (k:Int))=false:=by simp;omega
   have htop:k=0∨k=1∨nth xs (k - 1)≠0:=by omega
   have HTOP:=Lib.hid htop;clear htop
   obtain ⟨wo,rfl⟩:∃ wo:World,wo=wr:=⟨_,rfl⟩
   have HKK:=Lib.hid hk
   go_wp2_with fail
   go_loopw [4,5] (fun v i wr=>∃ m:Nat,m≤k∧i=.int .i64 ((m:Int) - 1)∧Own wr w.heap.size 5 .u8 v ((bytesOf ((xs.take k).drop m)).map (·.toNat))∧Below w.heap.size w wr) (fun _ i _=>(intOf i+1).toNat)
   case atStart=>exact ⟨k,Nat.le_refl _,rfl,by rw [List.drop_of_length_le (by rw [List.length_take];omega)];exact Own.nil _ _ _ _,HB.out⟩
   case round =>
    obtain ⟨m,hm,rfl,hown,hb2⟩:=hrel
    have hblen:((bytesOf ((xs.take k).drop m)).map (·.toNat)).length=k - m:=by rw [List.length_map,bytesOf_len,List.length_drop,List.length_take];omega
    obtain ⟨ad,cap,rfl⟩:=hown.shape
    rw [hblen] at hown ⊢
    have HO:=Lib.hid hown;clear hown
    have HB2:=Lib.hid hb2;clear hb2
    have hsz:=HB2.out.size
    have HLEN:=Lib.hid hblen;clear hblen
    by_cases hm0:0 < m
    ·obtain rfl:=HAX.out (by omega)
     have hbx2:=HBX.out (by omega)
     have hc2:=(HB2.out.cell (p:=⟨bx,ox+(m - 1),none⟩) hbx2).trans (HCX.out (m - 1) (by omega))
     have hd9:((nth xs (m - 1):Nat):Int)≤9:=by have:=HDG.out (m - 1);omega
     have hts:=bytes_step xs hk hm0 hm (HDG.out (m - 1))
     have HTS:=Lib.hid hts;clear hts
     have hraw:wr.ownsRow w.heap.size 5 1 (.slice ad (k - m) cap) (k - m) (vals .u8 ((bytesOf ((xs.take k).drop m)).map (·.toNat))):=by have:=HO.out.raw;rwa [HLEN.out] at this
     have HRAW:=Lib.hid hraw;clear hraw
     have hce:(48+((nth xs (m - 1):Nat):Int))=((48+nth xs (m - 1):Nat):Int):=by omega
     have HCE:=Lib.hid hce;clear hce
     go_wp2_with (at_builtin;refine wpList_append_own _ rfl (.tmp 26) (.tmp 33) 191 rfl w.heap.size 5 i0 (.int .u8 0) 1 1 Tryz.underlying191 hi hz0 hz1 hz2 rfl (by decide) _ _ _ rfl (World.ownsRow.alloc HRAW.out _) ⟨wr.heap.size,0,none⟩ 1 1 [.int .u8 (48+((nth xs (m - 1):Nat):Int))] rfl rfl (cell_one_new _ _ _) (one_cell _ _) (by unfold maxLen;omega) (by omega) (by simp;omega) ?_;intro v' w1 hown1 hgrow1 _)
     rw [HCE.out] at hown1
     obtain ⟨ho,hb⟩:=HO.out.appended HB2.out hsz (by rw [HLEN.out];exact hown1) hgrow1
     clear hown1 hgrow1
     rw [← HTS.out] at ho
     have HO1:=Lib.hid ho;clear ho
     have HB1:=Lib.hid hb;clear hb
     go_wp2_with fail
     go_roundw
     case rel=>exact ⟨m - 1,by omega,by go_num,HO1.out,HB1.out⟩
     case measure=>simp [intOf];omega
    ·obtain rfl:m=0:=by omega
     rw [List.drop_zero] at HO
     rw [Nat.sub_zero,List.drop_zero] at HLEN
     rw [Nat.sub_zero]
     rcases Nat.eq_zero_or_pos k with hk0 | hk0
     ·have hb0:(((k:Nat):Int) == 0)=true:=by rw [beq_iff_eq];omega
      have hres:str (dec (dval xs))=⟨#[48]⟩:=by
       have:xs=[]:=List.length_eq_zero_iff.1 (by
        rcases Nat.eq_zero_or_pos xs.length with h | h
        ·exact h
        ·have:=HK1.out h;omega)
       rw [this];show str (dec 0)=_;rw [dec_small (by omega)];rfl
      have HR:=Lib.hid hres;clear hres hk0
      go_wp2_with fail
      go_ret
      exact ⟨ret_str HR.out.symm,HB2.out⟩
     ·have hb0:(((k:Nat):Int) == 0)=false:=by rw [beq_eq_false_iff_ne];omega
      have ho:=HO.out
      rw [Nat.sub_zero] at ho
      obtain ⟨g,cap',hv,_⟩:=ho.some (by rw [HLEN.out];exact hk0)
      rw [HLEN.out] at hv
      simp only [Value.slice.injEq,true_and] at hv
      obtain ⟨rfl,rfl⟩:=hv
      have hcv:=run_convert_bytes_back (P:=Tryz.prog) wr 191 9 5 ⟨g,0,none⟩ cap (bytesOf (xs.take k)) Tryz.underlying191 Tryz.underlying5 Tryz.underlying9 (own_bytes ho (by rw [List.length_map] at HLEN;exact HLEN.out))
      have hbl:(bytesOf (xs.take k)).length=k:=by have:=HLEN.out;rwa [List.length_map] at this
      rw [hbl] at hcv
      have hres:(⟨(bytesOf (xs.take k)).toArray⟩:ByteArray)=str (dec (dval xs)):=by
       have ht2:k=1∨nth xs (k - 1)≠0:=by
        rcases HTOP.out with h | h | h
        ·omega
        ·exact .inl h
        ·exact .inr h
       rw [dec_bytesOf HDG.out hk0 HKK.out HZ.out ht2];rfl
      rw [hres] at hcv
      clear hbl hres ho hk0
      go_wp2_with fail
      go_ret
      exact ⟨rfl,HB2.out⟩
end Go.Proofs.YtjekapjbigfkbaaGreatDoor
namespace Go.Proofs.YtjekapjbigfkbaaGreatDoor
open Go Go.RowKit
set_option maxRecDepth 100000
theorem num_cat {p q:List UInt8} (h:dgts (p++q)=true):num (p++q)=num q+10 ^ q.length*num p:=by
 have hp:dgts p=true∧dgts q=true:=by simpa [dgts,List.all_append] using h
 rw [← (digL_ok h).2,← (digL_ok hp.1).2,← (digL_ok hp.2).2]
 have:digL (p++q)=digL q++digL p:=by simp [digL]
 rw [this,dval_append,digL_len]
def CmpB (s t:ByteArray) (c:Int):Prop :=
 (s.size < t.size∧c=-1)∨(t.size < s.size∧c=1)∨(s.size=t.size∧((bts s=bts t∧c=0) ∨
  ∃ i,i < s.size∧(bts s).take i=(bts t).take i∧(((bts s).getD i 0).toNat < ((bts t).getD i 0).toNat∧c=-1∨((bts t).getD i 0).toNat < ((bts s).getD i 0).toNat∧c=1)))
theorem num_lex {l r:List UInt8} (hl:dgts l=true) (hr:dgts r=true) (he:l.length=r.length) (i:Nat) (hi:i < l.length) (ht:l.take i=r.take i) (hc:(l.getD i 0).toNat < (r.getD i 0).toNat):num l < num r:=by
 have el:l=l.take i++(l.getD i 0::l.drop (i+1)):=by
  rw [List.getD_eq_getElem?_getD,List.getElem?_eq_getElem hi]
  simp
 have er:r=r.take i++(r.getD i 0::r.drop (i+1)):=by
  rw [List.getD_eq_getElem?_getD,List.getElem?_eq_getElem (by omega)]
  simp
 have hlen:(l.drop (i+1)).length=(r.drop (i+1)).length:=by rw [List.length_drop,List.length_drop,he]
 generalize l.take i=p at el ht
 generalize hcl:l.getD i 0=c at el hc
 generalize l.drop (i+1)=x at el hlen
 generalize r.take i=p' at er ht
 generalize hcr:r.getD i 0=d at er hc
 generalize r.drop (i+1)=y at er hlen
 subst ht
 rw [el] at hl ⊢
 rw [er] at hr ⊢
 have h1:dgts (c::x)=true:=by simp only [dgts,List.all_append,Bool.and_eq_true] at hl ⊢;exact hl.2
 have h2:dgts (d::y)=true:=by simp only [dgts,List.all_append,Bool.and_eq_true] at hr ⊢;exact hr.2
 have hx:dgts x=true:=by simp only [dgts,List.all_cons,Bool.and_eq_true] at h1 ⊢;exact h1.2
 have hc0:dgt c=true:=by simp only [dgts,List.all_cons,Bool.and_eq_true] at h1;exact h1.1
 rw [num_cat hl,num_cat hr]
 have e1:num (c::x)=num x+10 ^ x.length*(c.toNat - 48):=by
  have:=num_cat (p:=[c]) (q:=x) h1
  simpa [num] using this
 have e2:num (d::y)=num y+10 ^ y.length*(d.toNat - 48):=by
  have:=num_cat (p:=[d]) (q:=y) h2
  simpa [num] using this
 rw [e1,e2]
 simp only [List.length_cons,hlen]
 have h3:=num_lt x hx
 rw [hlen] at h3
 simp only [dgt,Bool.and_eq_true,decide_eq_true_eq] at hc0
 have h4:10 ^ y.length*(c.toNat - 48+1)≤10 ^ y.length*(d.toNat - 48):=Nat.mul_le_mul_left _ (by omega)
 rw [Nat.mul_add,Nat.mul_one] at h4
 omega
theorem dec_lt_len {m n:Nat} (h:(dec m).length < (dec n).length):m < n:=by
 rcases Nat.lt_or_ge m n with h1 | h1
 ·exact h1
 ·have:=(dec_len_lt (n:=m) (k:=(dec m).length)).1 (Nat.le_refl _)
  have:=(dec_len_lt (n:=n) (k:=(dec m).length)).2 ⟨by omega,this.2⟩
  omega
theorem cmpB_dec {m n:Nat} {c:Int} (h:CmpB (str (dec m)) (str (dec n)) c):c=cmpN m n:=by
 unfold CmpB at h
 simp only [bts_str,str_size] at h
 rcases h with ⟨h,rfl⟩ | ⟨h,rfl⟩ | ⟨h,⟨h1,rfl⟩ | ⟨i,hi,ht,⟨hc,rfl⟩ | ⟨hc,rfl⟩⟩⟩
 ·rw [cmpN_lt (dec_lt_len h)]
 ·rw [cmpN_gt (dec_lt_len h)]
 ·rw [cmpN_eq (dec_inj h1)]
 ·have:=num_lex (dgts_dec m) (dgts_dec n) h i hi ht hc
  rw [num_dec,num_dec] at this;rw [cmpN_lt this]
 ·have:=num_lex (dgts_dec n) (dgts_dec m) h.symm i (by omega) ht.symm hc
  rw [num_dec,num_dec] at this;rw [cmpN_gt this]
set_option maxHeartbeats 1000000 in
theorem rcompare_b (s t:ByteArray) (w:World) (hs:s.size≤100000) :
  Calls Tryz.prog 174 #[.string s,.string t] w fun e w'=>∃ c,CmpB s t c∧e=.returned (.int .i64 c)∧Below w.heap.size w w':=by
 by_cases h1:s.size < t.size
 ·have hc:CmpB s t (-1):=.inl ⟨h1,rfl⟩
  have HC:=Lib.hid hc;clear hc
  have hne:((s.size:Int) != (t.size:Int))=true:=by rw [bne_iff_ne];omega
  go_enter Tryz.func174,Tryz.ntmps174
  go_wp2_with fail
  go_ret
  exact ⟨_,HC.out,rfl,Below.refl _ _⟩
 ·by_cases h2:t.size < s.size
  ·have hc:CmpB s t 1:=.inr (.inl ⟨h2,rfl⟩)
   have HC:=Lib.hid hc;clear hc
   have hne:((s.size:Int) != (t.size:Int))=true:=by rw [bne_iff_ne];omega
   go_enter Tryz.func174,Tryz.ntmps174
   go_wp2_with fail
   go_ret
   exact ⟨_,HC.out,rfl,Below.refl _ _⟩
  ·have he:s.size=t.size:=by omega
   have HE:=Lib.hid he
   have hne:((s.size:Int) != (t.size:Int))=false:=by rw [bne_eq_false_iff_eq];omega
   clear h1 h2 he
   go_enter Tryz.func174,Tryz.ntmps174
   go_wp2_with fail
   clear hne
   go_loopw [5] (fun i wr=>∃ k:Nat,k≤s.size∧i=.int .i64 (k:Int)∧(bts s).take k=(bts t).take k∧Below w.heap.size w wr) (fun i _=>s.size - (intOf i).toNat)
   case atStart=>exact ⟨0,Nat.zero_le _,rfl,rfl,Below.refl _ _⟩
   case round =>
    obtain ⟨k,hk,rfl,htk,hb⟩:=hrel
    have HTK:=Lib.hid htk;clear htk
    have HB:=Lib.hid hb;clear hb
    by_cases hlt:k < s.size
    ·have hkt:k < t.size:=by have:=HE.out;omega
     rcases Nat.lt_trichotomy s[k].toNat t[k].toNat with hc | hc | hc
     ·have hr:CmpB s t (-1):=.inr (.inr ⟨HE.out,.inr ⟨k,hlt,HTK.out,.inl ⟨by rw [bts_getD s k hlt,bts_getD t k hkt];exact hc,rfl⟩⟩⟩)
      have HR:=Lib.hid hr;clear hr
      have hg1:((s[k].toNat:Int) != (t[k].toNat:Int))=true:=by rw [bne_iff_ne];omega
      have hg2:(s[k].toNat:Int) < (t[k].toNat:Int):=by omega
      go_wp2_with fail
      go_quiet (fail)
      go_wp2_with fail
      go_quiet (fail)
      go_wp2_with fail
      go_ret
      exact ⟨_,HR.out,rfl,below_drewN (below_drewN HB.out _) _⟩
     ·have hts:(bts s).take (k+1)=(bts t).take (k+1):=by
       rw [take_snoc s k hlt,take_snoc t k hkt,HTK.out,UInt8.toNat_inj.1 hc]
      have HTS:=Lib.hid hts;clear hts
      have hg1:((s[k].toNat:Int) != (t[k].toNat:Int))=false:=by rw [bne_eq_false_iff_eq];omega
      have HCC:=Lib.hid hc;clear hc
      go_wp2_with fail
      go_quiet (fail)
      go_wp2_with fail
      go_roundw
      case rel=>exact ⟨k+1,by omega,by go_num,HTS.out,below_drewN HB.out _⟩
      case measure=>simp [intOf];omega
     ·have hr:CmpB s t 1:=.inr (.inr ⟨HE.out,.inr ⟨k,hlt,HTK.out,.inr ⟨by rw [bts_getD s k hlt,bts_getD t k hkt];exact hc,rfl⟩⟩⟩)
      have HR:=Lib.hid hr;clear hr
      have hg1:((s[k].toNat:Int) != (t[k].toNat:Int))=true:=by rw [bne_iff_ne];omega
      have hg2:decide (s[k].toNat < t[k].toNat)=false:=decide_eq_false (by omega)
      have HCC:=Lib.hid hc;clear hc
      go_wp2_with fail
      go_quiet (fail)
      go_wp2_with fail
      go_quiet (fail)
      go_wp2_with fail
      go_ret
      exact ⟨_,HR.out,rfl,below_drewN (below_drewN HB.out _) _⟩
    ·have hr:CmpB s t 0:=.inr (.inr ⟨HE.out,.inl ⟨by
      have h:=HTK.out
      rwa [List.take_of_length_le (by rw [bts_len];omega),List.take_of_length_le (by rw [bts_len];have:=HE.out;omega)] at h,rfl⟩⟩)
     have HR:=Lib.hid hr;clear hr
     go_wp2_with fail
     go_ret
     exact ⟨_,HR.out,rfl,HB.out⟩
theorem rcompare_any (m n:Nat) (w:World) (hm:(dec m).length≤100000) :
  Calls Tryz.prog 174 #[.string (str (dec m)),.string (str (dec n))] w (CmpEnd m n w) :=
 (rcompare_b _ _ w (by rw [str_size];exact hm)).mono fun e w' ⟨c,h1,h2,h3⟩=>⟨by rw [h2,cmpB_dec h1],h3⟩
set_option maxHeartbeats 1000000 in
theorem rcmp_any (s t:ByteArray) (w:World) (hs:s.size≤maxLen) (ht:t.size≤maxLen) :
  Calls Tryz.prog 139 #[.string s,.string t] w (IntEnd (cmpF s t) w):=by
 have c1:=fun w=>rvalid_any s w hs
 have c2:=fun w=>rvalid_any t w ht
 clear hs ht
 cases h1:vld s with
 | false =>
  have hr:cmpF s t=0:=by unfold cmpF;rw [h1];rfl
  rw [hr];unfold vld at h1;rw [h1] at c1;clear hr h1 c2
  have C1:=Lib.hid c1;clear c1
  go_enter Tryz.func139,Tryz.ntmps139
  go_wp2_with fail
  refine (C1.out _).mono ?_
  rintro e w' ⟨rfl,rfl⟩
  go_wp2
  go_ret
  exact ⟨rfl,Below.refl _ _⟩
 | true =>
  cases h2:vld t with
  | false =>
   have hr:cmpF s t=0:=by unfold cmpF;rw [h1,h2];rfl
   rw [hr];unfold vld at h1 h2;rw [h1] at c1;rw [h2] at c2;clear hr h1 h2
   have C1:=Lib.hid c1;clear c1
   have C2:=Lib.hid c2;clear c2
   go_enter Tryz.func139,Tryz.ntmps139
   go_wp2_with fail
   refine (C1.out _).mono ?_
   rintro e w' ⟨rfl,rfl⟩
   go_wp2_with fail
   refine (C2.out _).mono ?_
   rintro e w' ⟨rfl,rfl⟩
   go_wp2
   go_ret
   exact ⟨rfl,Below.refl _ _⟩
  | true =>
   rw [show validL (bts s)=true from h1] at c1;rw [show validL (bts t)=true from h2] at c2
   have C1:=Lib.hid c1;clear c1
   have C2:=Lib.hid c2;clear c2
   have H1:=Lib.hid h1;clear h1
   have H2:=Lib.hid h2;clear h2
   have hr:cmpF s t=cmpN (val s) (val t):=by unfold cmpF;rw [H1.out,H2.out];rfl
   have hc:=fun w=>rcompare_any (val s) (val t) w (by have:=fits_val H1.out;unfold fits at this;omega)
   rw [sd_val H1.out,sd_val H2.out] at hc
   rw [hr];clear hr
   have HC:=Lib.hid hc;clear hc
   go_enter Tryz.func139,Tryz.ntmps139
   go_wp2_with fail
   refine (C1.out _).mono ?_
   rintro e w' ⟨rfl,rfl⟩
   go_wp2_with fail
   refine (C2.out _).mono ?_
   rintro e w' ⟨rfl,rfl⟩
   go_wp2_with fail
   refine (HC.out _).mono ?_
   rintro e w' ⟨rfl,hb⟩
   have HB:=Lib.hid hb;clear hb
   go_wp2_with fail
   go_ret
   exact ⟨rfl,HB.out⟩
end Go.Proofs.YtjekapjbigfkbaaGreatDoor
namespace Go.Proofs.YtjekapjbigfkbaaGreatDoor
open Go Go.RowKit
set_option maxRecDepth 100000
theorem rlimited_any (n:Nat) (w:World) :
  Calls Tryz.prog 172 #[.string (str (dec n))] w fun e w'=>e=.returned (.tuple #[.string (limS n).1,.int .i64 ((limS n).2:Int)])∧w=w':=by
 have hsz:=str_size (dec n)
 by_cases h:(dec n).length≤1000
 ·have hr:limS n=(str (dec n),0):=by unfold limS;rw [if_pos h]
  have hg:((str (dec n)).size:Int)≤1000:=by omega
  have HR:=Lib.hid hr;clear hr h hsz
  go_enter Tryz.func172,Tryz.ntmps172
  go_wp2_with fail
  go_ret2
  exact ⟨ret_si (by rw [HR.out]) (by rw [HR.out];rfl),rfl⟩
 ·have hr:limS n=(str [],2):=by unfold limS;rw [if_neg h]
  have hg:(1000:Int) < ((str (dec n)).size:Int):=by omega
  have HR:=Lib.hid hr;clear hr h hsz
  go_enter Tryz.func172,Tryz.ntmps172
  go_wp2_with fail
  go_ret2
  exact ⟨ret_si (by rw [HR.out];rfl) (by rw [HR.out];rfl),rfl⟩
def AddI (xs ys l:List Nat) (k c:Nat):Prop:=dval l+10 ^ k*c=dval (xs.take k)+dval (ys.take k)∧Dig l∧l.length=k∧c≤1
theorem addI_step {xs ys l:List Nat} {k c a b:Nat} (h:AddI xs ys l k c) (ha:a=nth xs k) (hb:b=nth ys k) (h1:a < 10) (h2:b < 10):AddI xs ys (l++[(a+b+c) % 10]) (k+1) ((a+b+c) / 10):=by
 obtain ⟨h3,h4,h5,h6⟩:=h
 refine ⟨?_,dig_snoc h4 (by omega),by rw [List.length_append,h5];rfl,by omega⟩
 rw [dval_snoc,h5,dval_take_succ,dval_take_succ,← ha,← hb,Nat.pow_succ,Nat.mul_assoc]
 have e:=Nat.mod_add_div (a+b+c) 10
 have e2:10 ^ k*((a+b+c) % 10)+10 ^ k*(10*((a+b+c) / 10))=10 ^ k*a+10 ^ k*b+10 ^ k*c:=by
  rw [← Nat.mul_add,e,Nat.mul_add,Nat.mul_add]
 omega
theorem addI_end {xs ys l:List Nat} {k c:Nat} (h:AddI xs ys l k c) (hx:Dig xs) (hy:Dig ys) (h1:xs.length < k) (h2:ys.length < k):dval l=dval xs+dval ys:=by
 obtain ⟨h3,h4,h5,h6⟩:=h
 rw [List.take_of_length_le (by omega),List.take_of_length_le (by omega)] at h3
 obtain ⟨j,rfl⟩:∃ j,k=j+1:=⟨k - 1,by omega⟩
 have b1:dval xs < 10 ^ j:=Nat.lt_of_lt_of_le (dval_lt hx) (Nat.pow_le_pow_right (by omega) (by omega))
 have b2:dval ys < 10 ^ j:=Nat.lt_of_lt_of_le (dval_lt hy) (Nat.pow_le_pow_right (by omega) (by omega))
 rw [Nat.pow_succ] at h3
 have:c=0:=by
  rcases Nat.eq_zero_or_pos c with h | h
  ·exact h
  ·have:10 ^ j*10*1≤10 ^ j*10*c:=Nat.mul_le_mul_left _ h
   omega
 subst this
 omega
def LessI (xs ys l:List Nat) (k c:Nat):Prop:=dval l+dval (ys.take k)=dval (xs.take k)+10 ^ k*c∧Dig l∧l.length=k∧c≤1
theorem lessI_step {xs ys l:List Nat} {k c a b d c':Nat} (h:LessI xs ys l k c) (ha:a=nth xs k) (hb:b=nth ys k) (hd:d < 10) (he:d+b+c=a+10*c') (hc':c'≤1):LessI xs ys (l++[d]) (k+1) c':=by
 obtain ⟨h3,h4,h5,h6⟩:=h
 refine ⟨?_,dig_snoc h4 hd,by rw [List.length_append,h5];rfl,hc'⟩
 rw [dval_snoc,h5,dval_take_succ,dval_take_succ,← ha,← hb,Nat.pow_succ,Nat.mul_assoc]
 have e2:10 ^ k*d+10 ^ k*b+10 ^ k*c=10 ^ k*a+10 ^ k*(10*c'):=by
  rw [← Nat.mul_add,← Nat.mul_add,he,Nat.mul_add]
 omega
theorem lessI_end {xs ys l:List Nat} {c:Nat} (h:LessI xs ys l xs.length c) (hl:ys.length≤xs.length) (hv:dval ys≤dval xs):dval l=dval xs - dval ys∧Dig l∧l.length=xs.length:=by
 obtain ⟨h3,h4,h5,h6⟩:=h
 rw [List.take_of_length_le (by omega),List.take_of_length_le (by omega)] at h3
 have b1:=dval_lt h4
 rw [h5] at b1
 have:c=0:=by
  rcases Nat.eq_zero_or_pos c with h | h
  ·exact h
  ·have:10 ^ xs.length*1≤10 ^ xs.length*c:=Nat.mul_le_mul_left _ h
   omega
 subst this
 exact ⟨by omega,h4,h5⟩
set_option maxHeartbeats 2000000 in
theorem rless_any (vx vy:Value) (xs ys:List Nat) (w:World) (hx:Sl w .i64 vx xs) (hy:Sl w .i64 vy ys) (dx:Dig xs) (dy:Dig ys) (hl:ys.length≤xs.length) (hv:dval ys≤dval xs) (hlx:xs.length≤100000) :
  Calls Tryz.prog 175 #[vx,vy] w fun e w'=>∃ ls,dval ls=dval xs - dval ys∧Dig ls∧ls.length=xs.length∧ListEnd ls w e w':=by
 obtain ⟨i0,hi,hz0,hz1,hz2⟩:=info_parts info_int
 obtain ⟨ax,cx,rfl⟩:=hx.shape
 obtain ⟨ay,cy,rfl⟩:=hy.shape
 have HX:=Lib.hid hx;clear hx
 have HY:=Lib.hid hy;clear hy
 have HDX:=Lib.hid dx;clear dx
 have HDY:=Lib.hid dy;clear dy
 have HLL:=Lib.hid hl;clear hl
 have HV:=Lib.hid hv;clear hv
 go_enter Tryz.func175,Tryz.ntmps175
 go_wp2_with fail
 go_loopw [5,6,7] (fun v c i wr=>∃ (k cn:Nat) (l:List Nat),k≤xs.length∧i=.int .i64 (k:Int)∧c=.int .i64 (cn:Int)∧LessI xs ys l k cn∧Own wr w.heap.size 3 .i64 v l∧Below w.heap.size w wr) (fun _ _ i _=>xs.length - (intOf i).toNat)
 case atStart=>exact ⟨0,0,[],Nat.zero_le _,rfl,rfl,⟨by simp [dval],dig_nil,rfl,by omega⟩,Own.nil _ _ _ _,Below.refl _ _⟩
 case round =>
  obtain ⟨k,cn,l,hk,rfl,rfl,hinv,hown,hb⟩:=hrel
  have hlk:l.length=k:=hinv.2.2.1
  have hc1:(cn:Int)≤1:=by have:=hinv.2.2.2;omega
  have HINV:=Lib.hid hinv;clear hinv
  obtain ⟨ad,cap,rfl⟩:=hown.shape
  rw [hlk] at hown ⊢
  have HO:=Lib.hid hown;clear hown
  have HB:=Lib.hid hb;clear hb
  have hsz:=HB.out.size
  have HLK:=Lib.hid hlk
  clear hlk
  by_cases hlt:k < xs.length
  ·obtain ⟨a,ha⟩:∃ a,a=nth xs k:=⟨_,rfl⟩
   obtain ⟨b,hb⟩:∃ b,b=nth ys k:=⟨_,rfl⟩
   have ha9:(a:Int)≤9:=by have:=HDX.out k;rw [← ha] at this;omega
   have hb9:(b:Int)≤9:=by have:=HDY.out k;rw [← hb] at this;omega
   have HA:=Lib.hid ha;clear ha
   have HBB:=Lib.hid hb;clear hb
   have hraw:wr.ownsRow w.heap.size 3 1 (.slice ad k cap) k (vals .i64 l):=by have:=HO.out.raw;rwa [HLK.out] at this
   have HRAW:=Lib.hid hraw;clear hraw
   by_cases hlow:a < b+cn
   ·have hg:decide (((a:Int) - (b:Int) - (cn:Int)) < 0)=true:=decide_eq_true (by omega)
    have hce:((a:Int) - (b:Int) - (cn:Int)+10)=(((a+10 - b - cn):Nat):Int):=by omega
    have HCE:=Lib.hid hce;clear hce
    have HLOW:=Lib.hid hlow;clear hlow
    go_wp2_with fail
    have q1:=rat_any _ xs k wr (HX.out.below HB.out (Nat.le_refl _)) (by omega)
    rw [← HA.out] at q1
    refine q1.mono ?_
    clear q1
    rintro e w0 ⟨rfl,rfl⟩
    go_wp2_with fail
    have q2:=rat_any _ ys k wr (HY.out.below HB.out (Nat.le_refl _)) (by omega)
    rw [← HBB.out] at q2
    refine q2.mono ?_
    clear q2
    rintro e w0 ⟨rfl,rfl⟩
    go_wp2_with (at_builtin;refine wpList_append_own _ rfl (.tmp 28) (.tmp 30) 27 rfl w.heap.size 3 i0 (.int .i64 0) 1 8 Tryz.underlying27 hi hz0 hz1 hz2 rfl (by decide) _ _ _ rfl (World.ownsRow.alloc HRAW.out _) ⟨wr.heap.size,0,none⟩ 1 1 [.int .i64 ((a:Int) - (b:Int) - (cn:Int)+10)] rfl rfl (cell_one_new _ _ _) (one_cell _ _) (by unfold maxLen;omega) (by omega) (by simp;omega) ?_;intro v' w1 hown1 hgrow1 _)
    rw [HCE.out] at hown1
    obtain ⟨ho,hb⟩:=HO.out.appended HB.out hsz (by rw [HLK.out];exact hown1) hgrow1
    clear hown1 hgrow1
    have HO1:=Lib.hid ho;clear ho
    have HB1:=Lib.hid hb;clear hb
    try go_wp2_with fail
    go_roundw
    case rel=>exact ⟨k+1,1,l++[(a+10 - b - cn)],by omega,by go_num,rfl,lessI_step HINV.out HA.out HBB.out (by have:=HLOW.out;omega) (by have:=HLOW.out;omega) (by omega),HO1.out,HB1.out⟩
    case measure=>simp [intOf];omega
   ·have hg:decide (((a:Int) - (b:Int) - (cn:Int)) < 0)=false:=decide_eq_false (by omega)
    have hce:((a:Int) - (b:Int) - (cn:Int))=(((a - b - cn):Nat):Int):=by omega
    have HCE:=Lib.hid hce;clear hce
    have HLOW:=Lib.hid hlow;clear hlow
    go_wp2_with fail
    have q1:=rat_any _ xs k wr (HX.out.below HB.out (Nat.le_refl _)) (by omega)
    rw [← HA.out] at q1
    refine q1.mono ?_
    clear q1
    rintro e w0 ⟨rfl,rfl⟩
    go_wp2_with fail
    have q2:=rat_any _ ys k wr (HY.out.below HB.out (Nat.le_refl _)) (by omega)
    rw [← HBB.out] at q2
    refine q2.mono ?_
    clear q2
    rintro e w0 ⟨rfl,rfl⟩
    go_wp2_with (at_builtin;refine wpList_append_own _ rfl (.tmp 28) (.tmp 30) 27 rfl w.heap.size 3 i0 (.int .i64 0) 1 8 Tryz.underlying27 hi hz0 hz1 hz2 rfl (by decide) _ _ _ rfl (World.ownsRow.alloc HRAW.out _) ⟨wr.heap.size,0,none⟩ 1 1 [.int .i64 ((a:Int) - (b:Int) - (cn:Int))] rfl rfl (cell_one_new _ _ _) (one_cell _ _) (by unfold maxLen;omega) (by omega) (by simp;omega) ?_;intro v' w1 hown1 hgrow1 _)
    rw [HCE.out] at hown1
    obtain ⟨ho,hb⟩:=HO.out.appended HB.out hsz (by rw [HLK.out];exact hown1) hgrow1
    clear hown1 hgrow1
    have HO1:=Lib.hid ho;clear ho
    have HB1:=Lib.hid hb;clear hb
    try go_wp2_with fail
    go_roundw
    case rel=>exact ⟨k+1,0,l++[(a - b - cn)],by omega,by go_num,rfl,lessI_step HINV.out HA.out HBB.out (by have:=HLOW.out;omega) (by have:=HLOW.out;omega) (by omega),HO1.out,HB1.out⟩
    case measure=>simp [intOf];omega
  ·have hkk:k=xs.length:=by omega
   have hi:=HINV.out
   rw [hkk] at hi
   obtain ⟨e1,e2,e3⟩:=lessI_end hi HLL.out HV.out
   have E1:=Lib.hid e1
   have E2:=Lib.hid e2
   have E3:=Lib.hid e3
   clear e1 e2 e3 hi hkk
   go_wp2_with fail
   go_ret
   exact ⟨l,E1.out,E2.out,E3.out,_,rfl,HO.out,HB.out⟩
set_option maxHeartbeats 4000000 in
theorem radd_any (s t:ByteArray) (w:World) (hs:s.size≤maxLen) (ht:t.size≤maxLen) :
  Calls Tryz.prog 138 #[.string s,.string t] w (PairEnd (addF s t) w):=by
 have c1:=fun w=>rvalid_any s w hs
 have c2:=fun w=>rvalid_any t w ht
 clear hs ht
 cases h1:vld s with
 | false =>
  have hr:addF s t=(str [],1):=by unfold addF;rw [h1];rfl
  rw [hr];unfold vld at h1;rw [h1] at c1;clear hr h1 c2
  have C1:=Lib.hid c1;clear c1
  go_enter Tryz.func138,Tryz.ntmps138
  go_wp2_with fail
  refine (C1.out _).mono ?_
  rintro e w' ⟨rfl,rfl⟩
  go_wp2
  go_ret2
  exact ⟨rfl,Below.refl _ _⟩
 | true =>
  cases h2:vld t with
  | false =>
   have hr:addF s t=(str [],1):=by unfold addF;rw [h1,h2];rfl
   rw [hr];unfold vld at h1 h2;rw [h1] at c1;rw [h2] at c2;clear hr h1 h2
   have C1:=Lib.hid c1;clear c1
   have C2:=Lib.hid c2;clear c2
   go_enter Tryz.func138,Tryz.ntmps138
   go_wp2_with fail
   refine (C1.out _).mono ?_
   rintro e w' ⟨rfl,rfl⟩
   go_wp2_with fail
   refine (C2.out _).mono ?_
   rintro e w' ⟨rfl,rfl⟩
   go_wp2
   go_ret2
   exact ⟨rfl,Below.refl _ _⟩
  | true =>
   rw [show validL (bts s)=true from h1] at c1;rw [show validL (bts t)=true from h2] at c2
   have C1:=Lib.hid c1;clear c1
   have C2:=Lib.hid c2;clear c2
   have H1:=Lib.hid h1;clear h1
   have H2:=Lib.hid h2;clear h2
   have hr:addF s t=limS (val s+val t):=by unfold addF;rw [H1.out,H2.out];rfl
   rw [hr];clear hr
   have d1:=fun w=>rdigits_any s w (by have:=vld_size H1.out;omega) (valid_parts H1.out).2.2.2
   have D1:=Lib.hid d1;clear d1
   have d2:=fun w=>rdigits_any t w (by have:=vld_size H2.out;omega) (valid_parts H2.out).2.2.2
   have D2:=Lib.hid d2;clear d2
   have o1:=digL_ok (valid_parts H1.out).2.2.2
   have o2:=digL_ok (valid_parts H2.out).2.2.2
   have hx1:=(vld_size H1.out).2
   have hy1:=(vld_size H2.out).2
   have n1:=digL_len (bts s)
   have n2:=digL_len (bts t)
   rw [bts_len] at n1 n2
   obtain ⟨xs,hxs⟩:∃ xs,xs=digL (bts s):=⟨_,rfl⟩
   obtain ⟨ys,hys⟩:∃ ys,ys=digL (bts t):=⟨_,rfl⟩
   rw [← hxs] at o1 n1
   rw [← hys] at o2 n2
   have hlx:xs.length≤1000:=by omega
   have hly:ys.length≤1000:=by omega
   have O1:=Lib.hid o1;clear o1
   have O2:=Lib.hid o2;clear o2
   have XS:=Lib.hid hxs;clear hxs
   have YS:=Lib.hid hys;clear hys
   clear hx1 hy1 n1 n2
   go_enter Tryz.func138,Tryz.ntmps138
   go_wp2_with fail
   refine (C1.out _).mono ?_
   rintro e w' ⟨rfl,rfl⟩
   go_wp2_with fail
   refine (C2.out _).mono ?_
   rintro e w' ⟨rfl,rfl⟩
   go_wp2_with fail
   refine (D1.out w).mono ?_
   rintro e w1 ⟨v1,rfl,ho1,hb1⟩
   rw [← XS.out] at ho1
   obtain ⟨ax,cx,rfl⟩:=ho1.shape
   have HO1:=Lib.hid ho1;clear ho1
   have HB1:=Lib.hid hb1;clear hb1
   have hz1:=HB1.out.size
   go_wp2_with fail
   refine (D2.out w1).mono ?_
   rintro e w2 ⟨v2,rfl,ho2,hb2⟩
   rw [← YS.out] at ho2
   obtain ⟨ay,cy,rfl⟩:=ho2.shape
   have HO2:=Lib.hid ho2;clear ho2
   have hb12:=HB1.out.trans (hb2.mono hz1)
   have hx2:=HO1.out.sl.below hb2 (Nat.le_refl _)
   have HB2:=Lib.hid hb12;clear hb12 hb2
   have hz2:=HB2.out.size
   have HX:=Lib.hid hx2;clear hx2
   have hy2:=HO2.out.sl
   have HY:=Lib.hid hy2;clear hy2
   go_wp2_with fail
   obtain ⟨i0,hi,hz0,hz1',hz2'⟩:=info_parts info_int
   go_loopw [8,9,10] (fun v c i wr=>∃ (k cn:Nat) (l:List Nat),k≤max xs.length ys.length+1∧i=.int .i64 (k:Int)∧c=.int .i64 (cn:Int)∧AddI xs ys l k cn∧Own wr w2.heap.size 3 .i64 v l∧Below w2.heap.size w2 wr) (fun _ _ i _=>max xs.length ys.length+1 - (intOf i).toNat)
   case atStart=>exact ⟨0,0,[],Nat.zero_le _,rfl,rfl,⟨by simp [dval],dig_nil,rfl,by omega⟩,Own.nil _ _ _ _,Below.refl _ _⟩
   case round =>
    obtain ⟨k,cn,l,hk,rfl,rfl,hinv,hown,hb⟩:=hrel
    have hlk:l.length=k:=hinv.2.2.1
    have hc1:(cn:Int)≤1:=by have:=hinv.2.2.2;omega
    have HINV:=Lib.hid hinv;clear hinv
    have hk1001:k≤1001:=by omega
    have HK:=Lib.hid hk;clear hk
    obtain ⟨ad,cap,rfl⟩:=hown.shape
    rw [hlk] at hown ⊢
    have HO:=Lib.hid hown;clear hown
    have HB:=Lib.hid hb;clear hb
    have hsz:=HB.out.size
    have HLK:=Lib.hid hlk
    clear hlk
    by_cases hlt:k≤xs.length∨k≤ys.length
    ·obtain ⟨a,ha⟩:∃ a,a=nth xs k:=⟨_,rfl⟩
     obtain ⟨b,hb⟩:∃ b,b=nth ys k:=⟨_,rfl⟩
     have ha9:(a:Int)≤9:=by have:=O1.out.1 k;rw [← ha] at this;omega
     have hb9:(b:Int)≤9:=by have:=O2.out.1 k;rw [← hb] at this;omega
     have HA:=Lib.hid ha;clear ha
     have HBB:=Lib.hid hb;clear hb
     have hraw:wr.ownsRow w2.heap.size 3 1 (.slice ad k cap) k (vals .i64 l):=by have:=HO.out.raw;rwa [HLK.out] at this
     have HRAW:=Lib.hid hraw;clear hraw
     have HLT:=Lib.hid hlt
     have hce:(((a:Int)+(b:Int)+(cn:Int)) % 10)=(((a+b+cn) % 10:Nat):Int):=by omega
     have HCE:=Lib.hid hce;clear hce
     by_cases hlx2:k≤xs.length
     ·clear hlt
      go_wp2_with fail
      have q1:=rat_any _ xs k wr (HX.out.below HB.out (Nat.le_refl _)) (by omega)
      rw [← HA.out] at q1
      refine q1.mono ?_
      clear q1
      rintro e w0 ⟨rfl,rfl⟩
      go_wp2_with fail
      have q2:=rat_any _ ys k wr (HY.out.below HB.out (Nat.le_refl _)) (by omega)
      rw [← HBB.out] at q2
      refine q2.mono ?_
      clear q2
      rintro e w0 ⟨rfl,rfl⟩
      go_wp2_with (at_builtin;refine wpList_append_own _ rfl (.tmp 45) (.tmp 48) 27 rfl w2.heap.size 3 i0 (.int .i64 0) 1 8 Tryz.underlying27 hi hz0 hz1' hz2' rfl (by decide) _ _ _ rfl (World.ownsRow.alloc HRAW.out _) ⟨wr.heap.size,0,none⟩ 1 1 [.int .i64 (((a:Int)+(b:Int)+(cn:Int)) % 10)] rfl rfl (cell_one_new _ _ _) (one_cell _ _) (by unfold maxLen;omega) (by omega) (by simp;omega) ?_;intro v' w1' hown1 hgrow1 _)
      rw [HCE.out] at hown1
      obtain ⟨ho,hb⟩:=HO.out.appended HB.out hsz (by rw [HLK.out];exact hown1) hgrow1
      clear hown1 hgrow1
      have HO3:=Lib.hid ho;clear ho
      have HB3:=Lib.hid hb;clear hb
      try go_wp2_with fail
      go_roundw
      case rel=>exact ⟨k+1,(a+b+cn) / 10,l++[(a+b+cn) % 10],by have:=HLT.out;omega,by go_num,by go_num,addI_step HINV.out HA.out HBB.out (by omega) (by omega),HO3.out,HB3.out⟩
      case measure=>have:=HLT.out;have:=HK.out;simp [intOf];omega
     ·have hlty:k≤ys.length:=by omega
      have hg:decide ((k:Int)≤(xs.length:Int))=false:=decide_eq_false (by omega)
      clear hlt
      go_wp2_with fail
      have q1:=rat_any _ xs k wr (HX.out.below HB.out (Nat.le_refl _)) (by omega)
      rw [← HA.out] at q1
      refine q1.mono ?_
      clear q1
      rintro e w0 ⟨rfl,rfl⟩
      go_wp2_with fail
      have q2:=rat_any _ ys k wr (HY.out.below HB.out (Nat.le_refl _)) (by omega)
      rw [← HBB.out] at q2
      refine q2.mono ?_
      clear q2
      rintro e w0 ⟨rfl,rfl⟩
      go_wp2_with (at_builtin;refine wpList_append_own _ rfl (.tmp 45) (.tmp 48) 27 rfl w2.heap.size 3 i0 (.int .i64 0) 1 8 Tryz.underlying27 hi hz0 hz1' hz2' rfl (by decide) _ _ _ rfl (World.ownsRow.alloc HRAW.out _) ⟨wr.heap.size,0,none⟩ 1 1 [.int .i64 (((a:Int)+(b:Int)+(cn:Int)) % 10)] rfl rfl (cell_one_new _ _ _) (one_cell _ _) (by unfold maxLen;omega) (by omega) (by simp;omega) ?_;intro v' w1' hown1 hgrow1 _)
      rw [HCE.out] at hown1
      obtain ⟨ho,hb⟩:=HO.out.appended HB.out hsz (by rw [HLK.out];exact hown1) hgrow1
      clear hown1 hgrow1
      have HO3:=Lib.hid ho;clear ho
      have HB3:=Lib.hid hb;clear hb
      try go_wp2_with fail
      go_roundw
      case rel=>exact ⟨k+1,(a+b+cn) / 10,l++[(a+b+cn) % 10],by have:=HLT.out;omega,by go_num,by go_num,addI_step HINV.out HA.out HBB.out (by omega) (by omega),HO3.out,HB3.out⟩
      case measure=>have:=HLT.out;have:=HK.out;simp [intOf];omega
    ·have hg:decide ((k:Int)≤(xs.length:Int))=false:=decide_eq_false (by omega)
     have hg2:decide ((k:Int)≤(ys.length:Int))=false:=decide_eq_false (by omega)
     have hg3:xs.length < k:=by omega
     have hg4:ys.length < k:=by omega
     have hsum:=addI_end HINV.out O1.out.1 O2.out.1 (by omega) (by omega)
     rw [O1.out.2,O2.out.2] at hsum
     have hsum':dval l=val s+val t:=hsum
     clear hsum
     have HSUM:=Lib.hid hsum';clear hsum'
     have HLT:=Lib.hid hlt;clear hlt
     go_wp2_with fail
     have q3:=rtext_any _ l wr HO.out.sl HINV.out.2.1 (by rw [HLK.out];omega)
     rw [HSUM.out] at q3
     refine q3.mono ?_
     clear q3
     rintro e w4 ⟨rfl,hb4⟩
     have hb5:=HB2.out.trans ((HB.out.mono hz2).trans (hb4.mono (by omega)))
     have HB5:=Lib.hid hb5;clear hb5 hb4
     go_wp2_with fail
     refine (rlimited_any (val s+val t) w4).mono ?_
     rintro e w5 ⟨rfl,rfl⟩
     go_wp2_with fail
     go_ret2
     exact ⟨rfl,HB5.out⟩
set_option maxHeartbeats 4000000 in
theorem rsub_any (s t:ByteArray) (w:World) (hs:s.size≤maxLen) (ht:t.size≤maxLen) :
  Calls Tryz.prog 140 #[.string s,.string t] w (PairEnd (subF s t) w):=by
 have c1:=fun w=>rvalid_any s w hs
 have c2:=fun w=>rvalid_any t w ht
 clear hs ht
 cases h1:vld s with
 | false =>
  have hr:subF s t=(str [],1):=by unfold subF;rw [h1];rfl
  rw [hr];unfold vld at h1;rw [h1] at c1;clear hr h1 c2
  have C1:=Lib.hid c1;clear c1
  go_enter Tryz.func140,Tryz.ntmps140
  go_wp2_with fail
  refine (C1.out _).mono ?_
  rintro e w' ⟨rfl,rfl⟩
  go_wp2
  go_ret2
  exact ⟨rfl,Below.refl _ _⟩
 | true =>
  cases h2:vld t with
  | false =>
   have hr:subF s t=(str [],1):=by unfold subF;rw [h1,h2];rfl
   rw [hr];unfold vld at h1 h2;rw [h1] at c1;rw [h2] at c2;clear hr h1 h2
   have C1:=Lib.hid c1;clear c1
   have C2:=Lib.hid c2;clear c2
   go_enter Tryz.func140,Tryz.ntmps140
   go_wp2_with fail
   refine (C1.out _).mono ?_
   rintro e w' ⟨rfl,rfl⟩
   go_wp2_with fail
   refine (C2.out _).mono ?_
   rintro e w' ⟨rfl,rfl⟩
   go_wp2
   go_ret2
   exact ⟨rfl,Below.refl _ _⟩
  | true =>
   rw [show validL (bts s)=true from h1] at c1;rw [show validL (bts t)=true from h2] at c2
   have C1:=Lib.hid c1;clear c1
   have C2:=Lib.hid c2;clear c2
   have H1:=Lib.hid h1;clear h1
   have H2:=Lib.hid h2;clear h2
   have hc:=fun w=>rcompare_any (val s) (val t) w (by have:=fits_val H1.out;unfold fits at this;omega)
   rw [sd_val H1.out,sd_val H2.out] at hc
   have d1:=fun w=>rdigits_any s w (by have:=vld_size H1.out;omega) (valid_parts H1.out).2.2.2
   have D1:=Lib.hid d1;clear d1
   have d2:=fun w=>rdigits_any t w (by have:=vld_size H2.out;omega) (valid_parts H2.out).2.2.2
   have D2:=Lib.hid d2;clear d2
   have o1:=digL_ok (valid_parts H1.out).2.2.2
   have o2:=digL_ok (valid_parts H2.out).2.2.2
   have hx1:=(vld_size H1.out).2
   have hy1:=(vld_size H2.out).2
   have n1:=digL_len (bts s)
   have n2:=digL_len (bts t)
   rw [bts_len] at n1 n2
   obtain ⟨xs,hxs⟩:∃ xs,xs=digL (bts s):=⟨_,rfl⟩
   obtain ⟨ys,hys⟩:∃ ys,ys=digL (bts t):=⟨_,rfl⟩
   rw [← hxs] at o1 n1
   rw [← hys] at o2 n2
   have hlx:xs.length≤1000:=by omega
   have hly:ys.length≤1000:=by omega
   have O1:=Lib.hid o1;clear o1
   have O2:=Lib.hid o2;clear o2
   have XS:=Lib.hid hxs;clear hxs
   have YS:=Lib.hid hys;clear hys
   clear hx1 hy1 n1 n2
   have hge:cmpN (val s) (val t)=if val s < val t then -1 else if val t < val s then 1 else 0:=rfl
   clear hge
   have HC:=Lib.hid hc;clear hc
   by_cases hlt:val s < val t
   ·have hr:subF s t=(str [],4):=by unfold subF;rw [H1.out,H2.out,if_pos hlt];rfl
    rw [hr];clear hr
    have hcn:=cmpN_lt hlt
    have HCN:=Lib.hid hcn;clear hcn hlt
    go_enter Tryz.func140,Tryz.ntmps140
    go_wp2_with fail
    refine (C1.out _).mono ?_
    rintro e w' ⟨rfl,rfl⟩
    go_wp2_with fail
    refine (C2.out _).mono ?_
    rintro e w' ⟨rfl,rfl⟩
    go_wp2_with fail
    have q0:=HC.out w
    unfold CmpEnd at q0
    rw [HCN.out] at q0
    refine q0.mono ?_
    clear q0
    rintro e w0 ⟨rfl,hb0⟩
    have HB0:=Lib.hid hb0;clear hb0
    go_wp2_with fail
    go_ret2
    exact ⟨rfl,HB0.out⟩
   ·have hr:subF s t=(str (dec (val s - val t)),0):=by unfold subF;rw [H1.out,H2.out,if_neg hlt];rfl
    rw [hr];clear hr
    have hcn:(0:Int)≤cmpN (val s) (val t):=by unfold cmpN;rw [if_neg hlt];split <;> decide
    obtain ⟨cc,hcc⟩:∃ cc,cc=cmpN (val s) (val t):=⟨_,rfl⟩
    rw [← hcc] at hcn
    have HCC:=Lib.hid hcc;clear hcc
    have hdl:ys.length≤xs.length:=by
     rw [YS.out,XS.out,digL_len,digL_len]
     have e1:bts s=dec (val s):=by unfold val;rw [dec_num H1.out]
     have e2:bts t=dec (val t):=by unfold val;rw [dec_num H2.out]
     rw [e1,e2]
     rcases Nat.lt_or_ge (dec (val s)).length (dec (val t)).length with h | h
     ·exact absurd (dec_lt_len h) hlt
     ·exact h
    have hdv:dval ys≤dval xs:=by rw [O1.out.2,O2.out.2];exact Nat.le_of_not_lt hlt
    have hds:dval xs - dval ys=val s - val t:=by rw [O1.out.2,O2.out.2];rfl
    have HDL:=Lib.hid hdl;clear hdl
    have HDV:=Lib.hid hdv;clear hdv
    have HDS:=Lib.hid hds;clear hds hlt
    go_enter Tryz.func140,Tryz.ntmps140
    go_wp2_with fail
    refine (C1.out _).mono ?_
    rintro e w' ⟨rfl,rfl⟩
    go_wp2_with fail
    refine (C2.out _).mono ?_
    rintro e w' ⟨rfl,rfl⟩
    go_wp2_with fail
    have q0:=HC.out w
    unfold CmpEnd at q0
    rw [← HCC.out] at q0
    refine q0.mono ?_
    clear q0
    rintro e w0 ⟨rfl,hb0⟩
    have HB0:=Lib.hid hb0;clear hb0
    have hz0:=HB0.out.size
    go_wp2_with fail
    refine (D1.out w0).mono ?_
    rintro e w1 ⟨v1,rfl,ho1,hb1⟩
    rw [← XS.out] at ho1
    obtain ⟨ax,cx,rfl⟩:=ho1.shape
    have HO1:=Lib.hid ho1;clear ho1
    have hb01:=HB0.out.trans (hb1.mono hz0)
    have HB1:=Lib.hid hb01;clear hb01 hb1
    have hz1:=HB1.out.size
    go_wp2_with fail
    refine (D2.out w1).mono ?_
    rintro e w2 ⟨v2,rfl,ho2,hb2⟩
    rw [← YS.out] at ho2
    obtain ⟨ay,cy,rfl⟩:=ho2.shape
    have HO2:=Lib.hid ho2;clear ho2
    have hb12:=HB1.out.trans (hb2.mono hz1)
    have hx2:=HO1.out.sl.below hb2 (Nat.le_refl _)
    have HB2:=Lib.hid hb12;clear hb12 hb2
    have hz2:=HB2.out.size
    have HX:=Lib.hid hx2;clear hx2
    go_wp2_with fail
    refine (rless_any _ _ xs ys w2 HX.out HO2.out.sl O1.out.1 O2.out.1 HDL.out HDV.out (by omega)).mono ?_
    rintro e w3 ⟨ls,hls1,hls2,hls3,v3,rfl,ho3,hb3⟩
    obtain ⟨al,cl,rfl⟩:=ho3.shape
    rw [HDS.out] at hls1
    have HL1:=Lib.hid hls1;clear hls1
    have HL2:=Lib.hid hls2;clear hls2
    have hls4:ls.length≤1000:=by omega
    clear hls3
    have HO3:=Lib.hid ho3;clear ho3
    have hb23:=HB2.out.trans (hb3.mono hz2)
    have HB3:=Lib.hid hb23;clear hb23 hb3
    have hz3:=HB3.out.size
    go_wp2_with fail
    have q3:=rtext_any _ ls w3 HO3.out.sl HL2.out (by omega)
    rw [HL1.out] at q3
    refine q3.mono ?_
    clear q3
    rintro e w4 ⟨rfl,hb4⟩
    have hb5:=HB3.out.trans (hb4.mono hz3)
    have HB5:=Lib.hid hb5;clear hb5 hb4
    go_wp2_with fail
    go_ret2
    exact ⟨rfl,HB5.out⟩
end Go.Proofs.YtjekapjbigfkbaaGreatDoor
