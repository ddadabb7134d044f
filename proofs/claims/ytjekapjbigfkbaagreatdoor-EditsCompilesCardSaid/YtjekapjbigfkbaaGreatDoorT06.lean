/- Parts of a proof: MR1 MR2. -/
import Derived.Test.YtjekapjbigfkbaaGreatDoorT02
import Derived.Test.YtjekapjbigfkbaaGreatDoorT03
import Derived.Deep.QuietTactic
import Derived.BigQuiet
import Derived.Laws.Concat
namespace Go.Proofs.YtjekapjbigfkbaaGreatDoor
set_option maxRecDepth 100000
set_option linter.unusedSimpArgs false
set_option linter.unusedVariables false
set_option linter.unusedSectionVars false
set_option maxHeartbeats 16000000
open Go Tryz
section
open Go.RowKit
theorem x3m (s:ByteArray) (w:World) (G:1<=s.size) (E:s.size<=1000) (r:s.size=1\/(bts s).headD 0≠48) :
  Calls prog 142 #[.string s] w fun e w'=>e=.returned (.bool (dgts (bts s)))/\w=w':=by
 have A:0<s.size:=by omega
 have C:decide ((s.size:Int)<1)=false:=by simp;omega
 have j:decide ((1000:Int)<(s.size:Int))=false:=by simp;omega
 have d:((s[0].toNat:Int)==48)=false\/(((s[0].toNat:Int)==48)=true/\decide ((1:Int)<(s.size:Int))=false):=by
  rcases r with h|h
  ·by_cases D:s[0].toNat=48
   ·right;exact⟨by rw[beq_iff_eq];omega,by simp;omega⟩
   left;rw[beq_eq_false_iff_ne];omega
  left;exact v1f _ (by rw[<- z9c s A];exact h)
 clear r
 rcases d with u|⟨u,B⟩
 all_goals
  go_enter func142,ntmps142
  go_wp2_with fail
  clear C j u
  try clear B
  go_loop [3] (fun i=>∃ k:Nat,k<=s.size/\i=.int .i64 k/\dgts ((bts s).take k)=true) (fun i=>s.size-(intOf i).toNat)
  case atStart=>exact⟨0,Nat.zero_le _,rfl,rfl⟩
  obtain⟨k,F,rfl,v⟩:=hrel;have z:=qh v;clear v;by_cases c:k<s.size
  ·by_cases l:(s[k].toNat:Int)<48
   ·go_wp2_with fail
    go_ret;exact⟨z0k (z9w s k c (v9d l)).symm,rfl⟩
   by_cases o:(57:Int)<(s[k].toNat:Int)
   ·have g:decide ((s[k].toNat:Int)<48)=false:=by simp;omega
    go_wp2_with fail
    go_ret;exact⟨z0k (z9w s k c (v9w o)).symm,rfl⟩
   have g:decide ((s[k].toNat:Int)<48)=false:=by simp;omega
   have p:decide ((57:Int)<(s[k].toNat:Int))=false:=by simp;omega
   go_wp2_with fail
   go_round
   case rel=>exact⟨k+1,by omega,by go_num,by rw[z7r s k c,z5j,z.out,x5k (by omega) (by omega)];rfl⟩
   simp[intOf];omega
  go_wp2_with fail
  go_ret;exact⟨z0k (by rw[<- z.out,List.take_of_length_le (by rw[z0j];omega)]),rfl⟩
theorem z1y (s:ByteArray) (w:World) (v:s.size<=maxLen) :
  Calls prog 142 #[.string s] w fun e w'=>e=.returned (.bool (z0w (bts s)))/\w=w':=by
 unfold maxLen at v;by_cases i:s.size=0
 ·have c:z0w (bts s)=false:=by simp[z0w,z0j,i]
  have o:decide ((s.size:Int)<1)=true:=by simp;omega
  have g:=qh c;clear c;have l:(s.size:Int)<1:=by omega
  clear i
  go_enter func142,ntmps142
  go_wp2_with fail
  go_ret;exact⟨z0k g.out.symm,rfl⟩
 by_cases k:1000<s.size
 ·have c:z0w (bts s)=false:=by simp[z0w,z0j];intros;omega
  have g:=qh c;clear c;have o:decide ((s.size:Int)<1)=false:=by simp;omega
  have l:(1000:Int)<(s.size:Int):=by omega
  clear i k
  go_enter func142,ntmps142
  go_wp2_with fail
  go_ret;exact⟨z0k g.out.symm,rfl⟩
 by_cases d:s.size=1\/(bts s).headD 0≠48
 ·refine(x3m s w (by omega) (by omega) d).mono fun e w' ⟨u,r⟩=>⟨?_,r⟩;rw[u];have:z0w (bts s)=dgts (bts s):=by
   cases j:dgts (bts s) with
   | false=>simp[z0w,j]
   | true=>exact y4u (by rw[z0j];omega) (by rw[z0j];omega) (by rw[z0j];exact d) j
  rw[this]
 have c:z0w (bts s)=false:=by
  cases A:z0w (bts s) with
  | false=>rfl
  | true=>exact absurd (by have:=(z0m A).2.2.1;rw[z0j] at this;exact this) d
 have g:=qh c;clear c;have p:0<s.size:=by omega
 have l:((s[0].toNat:Int)==48)=true:=by
  have:(bts s).headD 0=48:=by
   by_cases h:(bts s).headD 0=48
   ·exact h
   exact absurd (Or.inr h) d
  rw[z9c s p] at this;rw[this];rfl
 have B:(1:Int)<(s.size:Int):=by
  by_cases h:s.size=1
  ·exact absurd (Or.inl h) d
  omega
 have o:decide ((s.size:Int)<1)=false:=by simp;omega
 have z:decide ((1000:Int)<(s.size:Int))=false:=by simp;omega
 clear i k d
 go_enter func142,ntmps142
 go_wp2_with fail
 go_ret;exact⟨z0k g.out.symm,rfl⟩
end
section
open Go.RowKit
def dval:List Nat->Nat | []=>0|x::xs=>x+10*dval xs
def Dig (xs:List Nat):Prop:=∀ i,nth xs i<10
theorem x3p:Dig []:=fun i=>by rw[z1n _ _ (Nat.zero_le _)];omega
theorem x5t {x:Nat} {xs:List Nat} (h:Dig xs) (c:x<10):Dig (xs++[x]):=fun i=>by
 by_cases d:i<xs.length
 ·rw[z3e _ _ _ d];exact h i
 rw[z2x _ _ _ (by omega)];cases i-xs.length with
 | zero=>exact c
 | succ j=>show 0<10;omega
theorem y4m {xs:List Nat} (h:Dig xs) (k:Nat):Dig (xs.take k):=fun i=>by
 by_cases c:i<k
 ·rw[z9i _ _ _ c];exact h i
 rw[z1n _ _ (by rw[List.length_take];omega)];omega
theorem y0m (xs c:List Nat):dval (xs++c)=dval xs+10 ^ xs.length*dval c:=by
 induction xs with
 | nil=>simp[dval]
 | cons x xs ih=>simp only[List.cons_append,dval,ih,List.length_cons,Nat.pow_succ];rw[Nat.mul_add,Nat.mul_comm (10 ^ xs.length) 10,Nat.mul_assoc];omega
theorem y4z (xs:List Nat) (x:Nat):dval (xs++[x])=dval xs+10 ^ xs.length*x:=by rw[y0m];simp[dval]
theorem z2y (xs:List Nat) (k:Nat):dval (xs.take (k+1))=dval (xs.take k)+10 ^ k*nth xs k:=by
 by_cases h:k<xs.length
 ·rw[z9r xs k h,y4z,List.length_take,Nat.min_eq_left (by omega)]
 rw[List.take_of_length_le (by omega),List.take_of_length_le (by omega),z1n xs k (by omega)];simp
theorem x2e {xs:List Nat} (h:∀ i,nth xs i=0):dval xs=0:=by
 induction xs with
 | nil=>rfl
 | cons x xs ih=>simp only[dval];rw[ih (fun i=>h (i+1)),show x=0 from h 0]
theorem y6c {xs:List Nat} (h:Dig xs):dval xs<10 ^ xs.length:=by
 induction xs with
 | nil=>simp[dval]
 | cons x xs ih =>
  have c:=h 0;rw[z7z] at c;have:=ih (fun i=>h (i+1));simp only[dval,List.length_cons,Nat.pow_succ];omega
theorem y5h {xs:List Nat} {k:Nat} (c:∀ j,k<=j->nth xs j=0):dval (xs.take k)=dval xs:=by
 have h:=y0m (xs.take k) (xs.drop k);rw[List.take_append_drop] at h;rw[h,x2e (xs:=xs.drop k) (fun i=>by rw[y1t];exact c _ (by omega))];simp
def byteOf (d:Nat):UInt8:=UInt8.ofNat (48+d)
theorem byteOf_toNat {d:Nat} (h:d<10):(byteOf d).toNat=48+d:=u8n (by omega)
def bytesOf (xs:List Nat):List UInt8:=xs.reverse.map byteOf
theorem x1v (xs:List Nat) (x:Nat):bytesOf (xs++[x])=byteOf x::bytesOf xs:=by simp[bytesOf]
theorem y0n (xs:List Nat):(bytesOf xs).length=xs.length:=by simp[bytesOf]
theorem y3n (x:Nat) (xs:List Nat):bytesOf (x::xs)=bytesOf xs++[byteOf x]:=by simp[bytesOf]
theorem y5t {xs:List Nat} (h:Dig xs):num (bytesOf xs)=dval xs/\dgts (bytesOf xs)=true:=by
 induction xs with
 | nil=>exact⟨rfl,rfl⟩
 | cons x xs ih =>
  obtain⟨i1,d⟩:=ih (fun i=>h (i+1));have c:x<10:=h 0;rw[y3n,z5g,z5j,i1,d,byteOf_toNat c];refine⟨by simp only[dval];omega,?_⟩;simp only[dgt,byteOf_toNat c];simp;omega
theorem y6u {xs:List Nat} (h:Dig xs) {k:Nat} (i:1<=k) (l:k<=xs.length) (r:∀ j,k<=j->nth xs j=0) (d:k=1\/nth xs (k-1)≠0) :
  dec (dval xs)=bytesOf (xs.take k):=by
 rw[<- y5h r,<- (y5t (y4m h k)).1];have s:(bytesOf (xs.take k)).length=k:=by rw[y0n,List.length_take];omega
 have o:=(y5t (y4m h k)).2
 rcases d with rfl|d
 ·obtain⟨x,g⟩:∃ x,xs.take 1=[x]:=by
   cases xs with
   | nil=>simp at l
   | cons x xs=>exact⟨x,rfl⟩
  have c:x<10:=by have:=y4m h 1 0;rw[g] at this;exact this
  rw[g];show dec (num [byteOf x])=[byteOf x];have:num [byteOf x]=x:=by simp only[num,List.foldl];rw[byteOf_toNat c];omega
  rw[this,z1m c];rfl
 refine(y6s k _ s (by omega) ?_ o).2;have e:xs.take k=xs.take (k-1)++[nth xs (k-1)]:=by
  have:=z9r xs (k-1) (by omega)
  rwa [show k-1+1=k by omega] at this
 rw[e,x1v,List.headD_cons];intro p;have:=congrArg UInt8.toNat p;rw[byteOf_toNat (h (k-1))] at this;simp at this;exact d this
def digL (l:List UInt8):List Nat:=l.reverse.map fun c=>c.toNat-48
theorem z2j (l:List UInt8):(digL l).length=l.length:=by simp[digL]
theorem z3h {l:List UInt8} (h:dgts l=true):Dig (digL l)/\dval (digL l)=num l:=by
 suffices h':∀ (k:Nat) (l:List UInt8),l.length=k->dgts l=true->Dig (digL l)/\dval (digL l)=num l from h' _ l rfl h
 intro k
 induction k with
 | zero =>
      intro l d _;have:l=[]:=List.length_eq_zero_iff.1 d;subst this;exact⟨x3p,rfl⟩
 | succ k ih =>
  intro l d g;obtain⟨m,c,rfl⟩:=y1e l (by intro e;subst e;simp at d);rw[z5j] at g;simp only[Bool.and_eq_true,dgt,decide_eq_true_eq] at g;simp at d;obtain⟨i1,j⟩:=ih m d g.1;have e:digL (m++[c])=(c.toNat-48)::digL m:=by simp[digL]
  rw[e,z5g];refine⟨fun i=>?_,by simp only[dval];omega⟩;cases i with
  | zero=>show c.toNat-48<10;omega
  | succ i=>exact i1 i
theorem v5m (s:ByteArray) (i:Nat) (h:i<s.size):nth (digL (bts s)) i=s[s.size-1-i].toNat-48:=by
 rw[z5u _ _ (by rw[z2j,z0j];exact h)];unfold digL;rw[List.getElem_map,List.getElem_reverse]
 congr 2
end
section
open Go.RowKit
theorem y4j:(prog.info? 3).map (fun i=>(i.zero,i.size,i.bytes))=some (some (.int .i64 0),1,8):=by kernel_rfl
theorem v0b:(prog.info? 5).map (fun i=>(i.zero,i.size,i.bytes))=some (some (.int .u8 0),1,1):=by kernel_rfl
def ListEnd (xs:List Nat) (w:World) (e:Ending) (w':World):Prop:=∃ v,e=.returned v/\Own w' w.heap.size 3 .i64 v xs/\Below w.heap.size w w'
theorem z2u (s:ByteArray) (w:World) (W:s.size<=100000) (B:dgts (bts s)=true) :
  Calls prog 170 #[.string s] w (ListEnd (digL (bts s)) w):=by
 obtain⟨i0,hi,I,F,O⟩:=info_parts y4j;have S:=qh B;clear B;have p:=z2j (bts s);rw[z0j] at p;have r:=qh p;clear p
 go_enter func170,ntmps170
 go_wp2_with fail
 go_loopw [3,4] (fun v i wr=>∃ k:Nat,k<=s.size/\i=.int .i64 ((s.size:Int)-1-(k:Int))/\Own wr w.heap.size 3 .i64 v ((digL (bts s)).take k)/\Below w.heap.size w wr) (fun _ i _=>(intOf i+1).toNat)
 case atStart=>exact⟨0,Nat.zero_le _,by go_num,Own.nil _ _ _ _,Below.refl _ _⟩
 obtain⟨k,Y,rfl,d,hb⟩:=hrel;have h:((digL (bts s)).take k).length=k:=by rw[List.length_take,r.out];omega
 obtain⟨Q,J,rfl⟩:=d.shape;rw[h] at d ⊢;have H:=qh d;clear d;have N:=qh hb;clear hb;have P:=N.out.size;have l:=qh h;clear h;by_cases D:k<s.size
 ·have B:=y9g S.out (s.size-1-k) (by rw[z0j];omega);rw[x3x s _ (by omega)] at B;have U:(48:Int)<=(s[s.size-1-k].toNat:Int):=by omega
  have T:(s[s.size-1-k].toNat:Int)<=57:=by omega
  have o:=v5m s k D;have C:(digL (bts s)).take (k+1)=(digL (bts s)).take k++[s[s.size-1-k].toNat-48]:=by rw[z9r _ _ (by rw[r.out];exact D),o]
  have E:=qh C;clear C o B;have j:wr.ownsRow w.heap.size 3 1 (.slice Q k J) k (vals .i64 ((digL (bts s)).take k)):=by have:=H.out.raw;rwa [l.out] at this
  have A:=qh j;clear j;have z:((s[s.size-1-k].toNat:Int)-48)=((s[s.size-1-k].toNat-48:Nat):Int):=by omega
  have L:=qh z;clear z
  go_wp2_with (at_builtin;refine wpList_append_own _ rfl (.tmp 12) (.tmp 18) 27 rfl w.heap.size 3 i0 (.int .i64 0) 1 8 underlying27 hi I F O rfl (by decide) _ _ _ rfl (World.ownsRow.alloc A.out _) ⟨wr.heap.size,0,none⟩ 1 1 [.int .i64 ((s[s.size-1-k].toNat:Int)-48)] rfl rfl (cell_one_new _ _ _) (one_cell _ _) (by unfold maxLen;omega) (by omega) (by simp;omega) ?_;intro X Z c g _)
  rw[L.out] at c;obtain⟨u,hb⟩:=H.out.appended N.out P (by rw[l.out];exact c) g;clear c g;rw[<- E.out] at u;have G:=qh u;clear u;have K:=qh hb;clear hb
  go_wp2_with fail
  go_roundw
  case rel=>exact⟨k+1,by omega,by go_num,G.out,K.out⟩
  simp[intOf];omega
 go_wp2_with fail
 go_ret;have R:k=s.size:=by omega
 have u:=H.out;have e:(digL (bts s)).take k=digL (bts s):=List.take_of_length_le (by rw[r.out];omega);rw[e] at u;exact⟨_,rfl,u,N.out⟩
theorem z7s (v:Value) (xs:List Nat) (i:Nat) (w:World) (h:Sl w .i64 v xs) (hi:i<=1000000) :
  Calls prog 171 #[v,.int .i64 (i:Int)] w fun e w'=>e=.returned (.int .i64 ((nth xs i:Nat):Int))/\w=w':=by
 obtain⟨u,r,bx,z,rfl,j,o,d,g,c⟩:=h.open;unfold maxLen at d;clear h;by_cases k:i<xs.length
 ·obtain rfl:=j (by omega);have s:=c i k;clear c g
  go_enter func171,ntmps171
  go_wp2_with fail
  go_ret;exact⟨rfl,rfl⟩
 have l:=z1n xs i (by omega);have p:=qh l;clear l c j g
 go_enter func171,ntmps171
 go_wp2_with fail
 go_ret;exact⟨z4x (by rw[p.out];rfl),rfl⟩
theorem y7a (xs:List Nat) {k m:Nat} (g:k<=xs.length) (c:0<m) (h:m<=k) (d:nth xs (m-1)<10) :
  (bytesOf ((xs.take k).drop (m-1))).map (·.toNat)=(bytesOf ((xs.take k).drop m)).map (·.toNat)++[48+nth xs (m-1)]:=by
 rw[List.drop_eq_getElem_cons (by rw[List.length_take];omega),show m-1+1=m by omega,y3n,List.map_append]
 congr 1
 have e:(xs.take k)[m-1]'(by rw[List.length_take];omega)=nth xs (m-1):=by
  rw[z5u xs _ (by omega)];simp
 rw[e];simp[byteOf_toNat d]
theorem x1g {w:World} {B g cap n:Nat} {l:List UInt8} (h:Own w B 5 .u8 (.slice (some ⟨g,0,none⟩) n cap) (l.map (·.toNat))) (hn:l.length=n) :
  ∀ (j:Nat) (c:j<l.length),w.cell? ((⟨g,0,none⟩:Addr).add j)=some (.int .u8 ((l[j].toNat:Nat):Int)):=fun j c=>by
 have d:=h.cell (by rw[List.length_map];exact hn) j (by omega);have e:(⟨g,0,none⟩:Addr).add j=⟨g,j,none⟩:=by unfold Addr.add;split<;>simp_all
 rw[e,d,z5u _ _ (by rw[List.length_map];exact c),List.getElem_map]
theorem z9d (v:Value) (xs:List Nat) (w:World) (h:Sl w .i64 v xs) (hd:Dig xs) (hl:xs.length<=100000) :
  Calls prog 173 #[v] w fun e w'=>e=.returned (.string (str (dec (dval xs))))/\Below w.heap.size w w':=by
 obtain⟨i0,hi,b3,b1,a7⟩:=info_parts v0b;obtain⟨ax,cx,bx,ox,rfl,a6,b7,b4,R,D⟩:=h.open;unfold maxLen at b4;have E:=qh hd;clear hd h;have a9:=qh a6;clear a6;have a2:=qh D;clear D;have a4:=qh R;clear R
 go_enter func173,ntmps173
 go_wp2_with fail
 go_loopw [3] (fun n wr=>∃ k:Nat,k<=xs.length/\n=.int .i64 (k:Int)/\(∀ j,k<=j->nth xs j=0)/\(1<=xs.length->1<=k)/\Below w.heap.size w wr) (fun n _=>(intOf n).toNat)
 case atStart=>exact⟨xs.length,Nat.le_refl _,rfl,fun j hj=>z1n xs j hj,fun h=>h,Below.refl _ _⟩
 obtain⟨k,hk,rfl,hz,b0,hb⟩:=hrel;have HZ:=qh hz;clear hz;have a8:=qh b0;clear b0;have HB:=qh hb;clear hb;by_cases b8:1<k
 ·obtain rfl:=a9.out (by omega);have R:=a4.out (by omega);have hc:=(HB.out.cell (p:=⟨bx,ox+(k-1),none⟩) R).trans (a2.out (k-1) (by omega));have hg:(1:Int)<(k:Int):=by omega
  by_cases h0:nth xs (k-1)=0
  ·have J:(((nth xs (k-1):Nat):Int)==0)=true:=by rw[beq_iff_eq];omega
   have HH:=qh h0;clear h0
   go_wp2_with fail
   go_roundw
   case rel=>exact⟨k-1,by omega,by go_num,fun j hj=>by
    by_cases e:j=k-1
    ·rw[e];exact HH.out
    exact HZ.out j (by omega),fun _=>by omega,HB.out⟩
   simp[intOf];omega
  have J:(((nth xs (k-1):Nat):Int)==0)=false:=by rw[beq_eq_false_iff_ne];omega
  have HH:=qh h0;clear h0;have C:k=0\/k=1\/nth xs (k-1)≠0:=.inr (.inr HH.out);have Q:=qh C;clear C;obtain⟨wo,rfl⟩:∃ wo:World,wo=wr:=⟨_,rfl⟩;have a3:=qh hk
  go_wp2_with fail
  go_loopw [4,5] (fun v i wr=>∃ m:Nat,m<=k/\i=.int .i64 ((m:Int)-1)/\Own wr w.heap.size 5 .u8 v ((bytesOf ((xs.take k).drop m)).map (·.toNat))/\Below w.heap.size w wr) (fun _ i _=>(intOf i+1).toNat)
  case atStart=>exact⟨k,Nat.le_refl _,rfl,by rw[List.drop_of_length_le (by rw[List.length_take];omega)];exact Own.nil _ _ _ _,HB.out⟩
  obtain⟨m,hm,rfl,r,K⟩:=hrel;have l:((bytesOf ((xs.take k).drop m)).map (·.toNat)).length=k-m:=by rw[List.length_map,y0n,List.length_drop,List.length_take];omega
  obtain⟨ad,L,rfl⟩:=r.shape;rw[l] at r ⊢;have S:=qh r;clear r;have z:=qh K;clear K;have a5:=z.out.size;have c:=qh l;clear l;by_cases a1:0<m
  ·skip
   have H:=a4.out (by omega);have b5:=(z.out.cell (p:=⟨bx,ox+(m-1),none⟩) H).trans (a2.out (m-1) (by omega));have b6:((nth xs (m-1):Nat):Int)<=9:=by have:=E.out (m-1);omega
   have O:=y7a xs hk a1 hm (E.out (m-1));have T:=qh O;clear O;have A:wr.ownsRow w.heap.size 5 1 (.slice ad (k-m) L) (k-m) (vals .u8 ((bytesOf ((xs.take k).drop m)).map (·.toNat))):=by have:=S.out.raw;rwa [c.out] at this
   have G:=qh A;clear A;have I:(48+((nth xs (m-1):Nat):Int))=((48+nth xs (m-1):Nat):Int):=by omega
   have X:=qh I;clear I
   go_wp2_with (at_builtin;refine wpList_append_own _ rfl (.tmp 26) (.tmp 33) 191 rfl w.heap.size 5 i0 (.int .u8 0) 1 1 underlying191 hi b3 b1 a7 rfl (by decide) _ _ _ rfl (World.ownsRow.alloc G.out _) ⟨wr.heap.size,0,none⟩ 1 1 [.int .u8 (48+((nth xs (m-1):Nat):Int))] rfl rfl (cell_one_new _ _ _) (one_cell _ _) (by unfold maxLen;omega) (by omega) (by simp;omega) ?_;intro v' w1 o s _)
   rw[X.out] at o;obtain⟨B,hb⟩:=S.out.appended z.out a5 (by rw[c.out];exact o) s;clear o s;rw[<- T.out] at B;have Z:=qh B;clear B;have W:=qh hb;clear hb
   go_wp2_with fail
   go_roundw
   case rel=>exact⟨m-1,by omega,by go_num,Z.out,W.out⟩
   simp[intOf];omega
  obtain rfl:m=0:=by omega
  rw[List.drop_zero] at S;rw[Nat.sub_zero,List.drop_zero] at c;rw[Nat.sub_zero]
  rcases Nat.eq_zero_or_pos k with u|u
  ·have J:(((k:Nat):Int)==0)=true:=by rw[beq_iff_eq];omega
   have d:str (dec (dval xs))=⟨#[48]⟩:=by
    have:xs=[]:=List.length_eq_zero_iff.1 (by
     rcases Nat.eq_zero_or_pos xs.length with h|h
     ·exact h
     have:=a8.out h;omega)
    rw[this];show str (dec 0)=_;rw[z1m (by omega)];rfl
   have HR:=qh d;clear d u
   go_wp2_with fail
   go_ret;exact⟨y2k HR.out.symm,z.out⟩
  have J:(((k:Nat):Int)==0)=false:=by rw[beq_eq_false_iff_ne];omega
  have B:=S.out;rw[Nat.sub_zero] at B;obtain⟨g,b2,U,_⟩:=B.some (by rw[c.out];exact u);rw[c.out] at U;simp only[Value.slice.injEq,true_and] at U;obtain⟨rfl,rfl⟩:=U;have F:=run_convert_bytes_back (P:=prog) wr 191 9 5 ⟨g,0,none⟩ L (bytesOf (xs.take k)) underlying191 underlying5 underlying9 (x1g B (by rw[List.length_map] at c;exact c.out));have N:(bytesOf (xs.take k)).length=k:=by have:=c.out;rwa [List.length_map] at this
  rw[N] at F;have d:(⟨(bytesOf (xs.take k)).toArray⟩:ByteArray)=str (dec (dval xs)):=by
   have Y:k=1\/nth xs (k-1)≠0:=by
    rcases Q.out with h|h|h
    ·omega
    ·exact .inl h
    exact .inr h
   rw[y6u E.out u a3.out HZ.out Y];rfl
  rw[d] at F;clear N d B u
  go_wp2_with fail
  go_ret;exact⟨rfl,z.out⟩
 have hg:decide ((1:Int)<(k:Int))=false:=by simp;omega
 have C:k=0\/k=1\/nth xs (k-1)≠0:=by omega
 have Q:=qh C;clear C;obtain⟨wo,rfl⟩:∃ wo:World,wo=wr:=⟨_,rfl⟩;have a3:=qh hk
 go_wp2_with fail
 go_loopw [4,5] (fun v i wr=>∃ m:Nat,m<=k/\i=.int .i64 ((m:Int)-1)/\Own wr w.heap.size 5 .u8 v ((bytesOf ((xs.take k).drop m)).map (·.toNat))/\Below w.heap.size w wr) (fun _ i _=>(intOf i+1).toNat)
 case atStart=>exact⟨k,Nat.le_refl _,rfl,by rw[List.drop_of_length_le (by rw[List.length_take];omega)];exact Own.nil _ _ _ _,HB.out⟩
 obtain⟨m,hm,rfl,r,K⟩:=hrel;have l:((bytesOf ((xs.take k).drop m)).map (·.toNat)).length=k-m:=by rw[List.length_map,y0n,List.length_drop,List.length_take];omega
 obtain⟨ad,L,rfl⟩:=r.shape;rw[l] at r ⊢;have S:=qh r;clear r;have z:=qh K;clear K;have a5:=z.out.size;have c:=qh l;clear l;by_cases a1:0<m
 ·obtain rfl:=a9.out (by omega);have H:=a4.out (by omega);have b5:=(z.out.cell (p:=⟨bx,ox+(m-1),none⟩) H).trans (a2.out (m-1) (by omega));have b6:((nth xs (m-1):Nat):Int)<=9:=by have:=E.out (m-1);omega
  have O:=y7a xs hk a1 hm (E.out (m-1));have T:=qh O;clear O;have A:wr.ownsRow w.heap.size 5 1 (.slice ad (k-m) L) (k-m) (vals .u8 ((bytesOf ((xs.take k).drop m)).map (·.toNat))):=by have:=S.out.raw;rwa [c.out] at this
  have G:=qh A;clear A;have I:(48+((nth xs (m-1):Nat):Int))=((48+nth xs (m-1):Nat):Int):=by omega
  have X:=qh I;clear I
  go_wp2_with (at_builtin;refine wpList_append_own _ rfl (.tmp 26) (.tmp 33) 191 rfl w.heap.size 5 i0 (.int .u8 0) 1 1 underlying191 hi b3 b1 a7 rfl (by decide) _ _ _ rfl (World.ownsRow.alloc G.out _) ⟨wr.heap.size,0,none⟩ 1 1 [.int .u8 (48+((nth xs (m-1):Nat):Int))] rfl rfl (cell_one_new _ _ _) (one_cell _ _) (by unfold maxLen;omega) (by omega) (by simp;omega) ?_;intro v' w1 o s _)
  rw[X.out] at o;obtain⟨B,hb⟩:=S.out.appended z.out a5 (by rw[c.out];exact o) s;clear o s;rw[<- T.out] at B;have Z:=qh B;clear B;have W:=qh hb;clear hb
  go_wp2_with fail
  go_roundw
  case rel=>exact⟨m-1,by omega,by go_num,Z.out,W.out⟩
  simp[intOf];omega
 obtain rfl:m=0:=by omega
 rw[List.drop_zero] at S;rw[Nat.sub_zero,List.drop_zero] at c;rw[Nat.sub_zero]
 rcases Nat.eq_zero_or_pos k with u|u
 ·have J:(((k:Nat):Int)==0)=true:=by rw[beq_iff_eq];omega
  have d:str (dec (dval xs))=⟨#[48]⟩:=by
   have:xs=[]:=List.length_eq_zero_iff.1 (by
    rcases Nat.eq_zero_or_pos xs.length with h|h
    ·exact h
    have:=a8.out h;omega)
   rw[this];show str (dec 0)=_;rw[z1m (by omega)];rfl
  have HR:=qh d;clear d u
  go_wp2_with fail
  go_ret;exact⟨y2k HR.out.symm,z.out⟩
 have J:(((k:Nat):Int)==0)=false:=by rw[beq_eq_false_iff_ne];omega
 have B:=S.out;rw[Nat.sub_zero] at B;obtain⟨g,b2,U,_⟩:=B.some (by rw[c.out];exact u);rw[c.out] at U;simp only[Value.slice.injEq,true_and] at U;obtain⟨rfl,rfl⟩:=U;have F:=run_convert_bytes_back (P:=prog) wr 191 9 5 ⟨g,0,none⟩ L (bytesOf (xs.take k)) underlying191 underlying5 underlying9 (x1g B (by rw[List.length_map] at c;exact c.out));have N:(bytesOf (xs.take k)).length=k:=by have:=c.out;rwa [List.length_map] at this
 rw[N] at F;have d:(⟨(bytesOf (xs.take k)).toArray⟩:ByteArray)=str (dec (dval xs)):=by
  have Y:k=1\/nth xs (k-1)≠0:=by
   rcases Q.out with h|h|h
   ·omega
   ·exact .inl h
   exact .inr h
  rw[y6u E.out u a3.out HZ.out Y];rfl
 rw[d] at F;clear N d B u
 go_wp2_with fail
 go_ret;exact⟨rfl,z.out⟩
end
section
open Go.RowKit
theorem y8w {p q:List UInt8} (h:dgts (p++q)=true):num (p++q)=num q+10 ^ q.length*num p:=by
 have c:dgts p=true/\dgts q=true:=by simpa [dgts,List.all_append] using h
 rw[<- (z3h h).2,<- (z3h c.1).2,<- (z3h c.2).2];have:digL (p++q)=digL q++digL p:=by simp[digL]
 rw[this,y0m,z2j]
def CmpB (s t:ByteArray) (c:Int):Prop :=
 (s.size<t.size/\c=-1)\/(t.size<s.size/\c=1)\/(s.size=t.size/\((bts s=bts t/\c=0) \/
  ∃ i,i<s.size/\(bts s).take i=(bts t).take i/\(((bts s).getD i 0).toNat<((bts t).getD i 0).toNat/\c=-1\/((bts t).getD i 0).toNat<((bts s).getD i 0).toNat/\c=1)))
theorem v5f {l r:List UInt8} (k:dgts l=true) (j:dgts r=true) (D:l.length=r.length) (i:Nat) (hi:i<l.length) (v:l.take i=r.take i) (z:(l.getD i 0).toNat<(r.getD i 0).toNat):num l<num r:=by
 have o:l=l.take i++(l.getD i 0::l.drop (i+1)):=by
  rw[List.getD_eq_getElem?_getD,List.getElem?_eq_getElem hi];simp
 have s:r=r.take i++(r.getD i 0::r.drop (i+1)):=by
  rw[List.getD_eq_getElem?_getD,List.getElem?_eq_getElem (by omega)];simp
 have g:(l.drop (i+1)).length=(r.drop (i+1)).length:=by rw[List.length_drop,List.length_drop,D]
 generalize l.take i=p at o v;generalize hcl:l.getD i 0=c at o z;generalize l.drop (i+1)=x at o g;generalize r.take i=p' at s v;generalize hcr:r.getD i 0=d at s z;generalize r.drop (i+1)=y at s g;subst v;rw[o] at k ⊢;rw[s] at j ⊢;have h:dgts (c::x)=true:=by simp only[dgts,List.all_append,Bool.and_eq_true] at k ⊢;exact k.2
 have F:dgts (d::y)=true:=by simp only[dgts,List.all_append,Bool.and_eq_true] at j ⊢;exact j.2
 have C:dgts x=true:=by simp only[dgts,List.all_cons,Bool.and_eq_true] at h ⊢;exact h.2
 have u:dgt c=true:=by simp only[dgts,List.all_cons,Bool.and_eq_true] at h;exact h.1
 rw[y8w k,y8w j];have A:num (c::x)=num x+10 ^ x.length*(c.toNat-48):=by
  have:=y8w (p:=[c]) (q:=x) h
  simpa [num] using this
 have e2:num (d::y)=num y+10 ^ y.length*(d.toNat-48):=by
  have:=y8w (p:=[d]) (q:=y) F
  simpa [num] using this
 rw[A,e2];simp only[List.length_cons,g];have E:=v4t x C;rw[g] at E;simp only[dgt,Bool.and_eq_true,decide_eq_true_eq] at u;have B:10 ^ y.length*(c.toNat-48+1)<=10 ^ y.length*(d.toNat-48):=Nat.mul_le_mul_left _ (by omega);rw[Nat.mul_add,Nat.mul_one] at B;omega
theorem y2s {m n:Nat} (h:(dec m).length<(dec n).length):m<n:=by
 rcases Nat.lt_or_ge m n with c|c
 ·exact c
 have:=(z1p (n:=m) (k:=(dec m).length)).1 (Nat.le_refl _);have:=(z1p (n:=n) (k:=(dec m).length)).2 ⟨by omega,this.2⟩;omega
theorem v7m {m n:Nat} {c:Int} (h:CmpB (str (dec m)) (str (dec n)) c):c=cmpN m n:=by
 unfold CmpB at h;simp only[z1f,z0s] at h
 rcases h with ⟨h,rfl⟩|⟨h,rfl⟩|⟨h,⟨j,rfl⟩|⟨i,hi,g,⟨d,rfl⟩|⟨d,rfl⟩⟩⟩
 ·rw[z4k (y2s h)]
 ·rw[z6k (y2s h)]
 ·rw[z8k (z5v j)]
 ·have:=v5f (z3b m) (z3b n) h i hi g d;rw[z4r,z4r] at this;rw[z4k this]
 have:=v5f (z3b n) (z3b m) h.symm i (by omega) g.symm d;rw[z4r,z4r] at this;rw[z6k this]
theorem x8w (s t:ByteArray) (w:World) (J:s.size<=100000) :
  Calls prog 174 #[.string s,.string t] w fun e w'=>∃ c,CmpB s t c/\e=.returned (.int .i64 c)/\Below w.heap.size w w':=by
 by_cases I:s.size<t.size
 ·have d:CmpB s t (-1):=.inl ⟨I,rfl⟩;have F:=qh d;clear d;have p:((s.size:Int) != (t.size:Int))=true:=by rw[bne_iff_ne];omega
  go_enter func174,ntmps174
  go_wp2_with fail
  go_ret;exact⟨_,F.out,rfl,Below.refl _ _⟩
 by_cases H:t.size<s.size
 ·have d:CmpB s t 1:=.inr (.inl ⟨H,rfl⟩);have F:=qh d;clear d;have p:((s.size:Int) != (t.size:Int))=true:=by rw[bne_iff_ne];omega
  go_enter func174,ntmps174
  go_wp2_with fail
  go_ret;exact⟨_,F.out,rfl,Below.refl _ _⟩
 have G:s.size=t.size:=by omega
 have r:=qh G;have p:((s.size:Int) != (t.size:Int))=false:=by rw[bne_eq_false_iff_eq];omega
 clear I H G
 go_enter func174,ntmps174
 go_wp2_with fail
 clear p
 go_loopw [5] (fun i wr=>∃ k:Nat,k<=s.size/\i=.int .i64 (k:Int)/\(bts s).take k=(bts t).take k/\Below w.heap.size w wr) (fun i _=>s.size-(intOf i).toNat)
 case atStart=>exact⟨0,Nat.zero_le _,rfl,rfl,Below.refl _ _⟩
 obtain⟨k,K,rfl,v,hb⟩:=hrel;have j:=qh v;clear v;have B:=qh hb;clear hb;by_cases g:k<s.size
 ·have o:k<t.size:=by have:=r.out;omega
  rcases Nat.lt_trichotomy s[k].toNat t[k].toNat with d|d|d
  ·have l:CmpB s t (-1):=.inr (.inr ⟨r.out,.inr ⟨k,g,j.out,.inl ⟨by rw[z8a s k g,z8a t k o];exact d,rfl⟩⟩⟩);have u:=qh l;clear l;have A:((s[k].toNat:Int) != (t[k].toNat:Int))=true:=by rw[bne_iff_ne];omega
   have D:(s[k].toNat:Int)<(t[k].toNat:Int):=by omega
   go_wp2_with fail
   go_quiet (fail)
   go_wp2_with fail
   go_quiet (fail)
   go_wp2_with fail
   go_ret;exact⟨_,u.out,rfl,below_drewN (below_drewN B.out _) _⟩
  ·have z:(bts s).take (k+1)=(bts t).take (k+1):=by
    rw[z7r s k g,z7r t k o,j.out,UInt8.toNat_inj.1 d]
   have C:=qh z;clear z;have A:((s[k].toNat:Int) != (t[k].toNat:Int))=false:=by rw[bne_eq_false_iff_eq];omega
   have E:=qh d;clear d
   go_wp2_with fail
   go_quiet (fail)
   go_wp2_with fail
   go_roundw
   case rel=>exact⟨k+1,by omega,by go_num,C.out,below_drewN B.out _⟩
   simp[intOf];omega
  have l:CmpB s t 1:=.inr (.inr ⟨r.out,.inr ⟨k,g,j.out,.inr ⟨by rw[z8a s k g,z8a t k o];exact d,rfl⟩⟩⟩);have u:=qh l;clear l;have A:((s[k].toNat:Int) != (t[k].toNat:Int))=true:=by rw[bne_iff_ne];omega
  have D:decide (s[k].toNat<t[k].toNat)=false:=decide_eq_false (by omega);have E:=qh d;clear d
  go_wp2_with fail
  go_quiet (fail)
  go_wp2_with fail
  go_quiet (fail)
  go_wp2_with fail
  go_ret;exact⟨_,u.out,rfl,below_drewN (below_drewN B.out _) _⟩
 have l:CmpB s t 0:=.inr (.inr ⟨r.out,.inl ⟨by
  have h:=j.out
  rwa [List.take_of_length_le (by rw[z0j];omega),List.take_of_length_le (by rw[z0j];have:=r.out;omega)] at h,rfl⟩⟩)
 have u:=qh l;clear l
 go_wp2_with fail
 go_ret;exact⟨_,u.out,rfl,B.out⟩
theorem z6v (m n:Nat) (w:World) (h:(dec m).length<=100000) :
  Calls prog 174 #[.string (str (dec m)),.string (str (dec n))] w (CmpEnd m n w) :=
 (x8w _ _ w (by rw[z0s];exact h)).mono fun e j ⟨c,g,i,d⟩=>⟨by rw[i,v7m g],d⟩
theorem v5n (s t:ByteArray) (w:World) (p:s.size<=maxLen) (r:t.size<=maxLen) :
  Calls prog 139 #[.string s,.string t] w (IntEnd (cmpF s t) w):=by
 have c1:=fun w=>z1y s w p;have c2:=fun w=>z1y t w r;clear p r;cases c:vld s with
 | false =>
  have d:cmpF s t=0:=by unfold cmpF;rw[c];rfl
  rw[d];unfold vld at c;rw[c] at c1;clear d c c2;have h:=qh c1;clear c1
  go_enter func139,ntmps139
  go_wp2_with fail
  refine(h.out _).mono ?_;rintro e i ⟨rfl,rfl⟩;go_wp2;go_ret;exact⟨rfl,Below.refl _ _⟩
 | true =>
  cases g:vld t with
  | false =>
   have d:cmpF s t=0:=by unfold cmpF;rw[c,g];rfl
   rw[d];unfold vld at c g;rw[c] at c1;rw[g] at c2;clear d c g;have h:=qh c1;clear c1;have k:=qh c2;clear c2
   go_enter func139,ntmps139
   go_wp2_with fail
   refine(h.out _).mono ?_;rintro e i ⟨rfl,rfl⟩
   go_wp2_with fail
   refine(k.out _).mono ?_;rintro e i ⟨rfl,rfl⟩;go_wp2;go_ret;exact⟨rfl,Below.refl _ _⟩
  | true =>
   rw[show z0w (bts s)=true from c] at c1;rw[show z0w (bts t)=true from g] at c2;have h:=qh c1;clear c1;have k:=qh c2;clear c2;have l:=qh c;clear c;have o:=qh g;clear g;have d:cmpF s t=cmpN (val s) (val t):=by unfold cmpF;rw[l.out,o.out];rfl
   have j:=fun w=>z6v (val s) (val t) w (by have:=y2f l.out;unfold fits at this;omega);rw[y5u l.out,y5u o.out] at j;rw[d];clear d;have u:=qh j;clear j
   go_enter func139,ntmps139
   go_wp2_with fail
   refine(h.out _).mono ?_;rintro e i ⟨rfl,rfl⟩
   go_wp2_with fail
   refine(k.out _).mono ?_;rintro e i ⟨rfl,rfl⟩
   go_wp2_with fail
   refine(u.out _).mono ?_;rintro e i ⟨rfl,hb⟩;have v:=qh hb;clear hb
   go_wp2_with fail
   go_ret;exact⟨rfl,v.out⟩
end
section
open Go.RowKit
theorem y3m (n:Nat) (w:World) :
  Calls prog 172 #[.string (str (dec n))] w fun e w'=>e=.returned (.tuple #[.string (limS n).1,.int .i64 ((limS n).2:Int)])/\w=w':=by
 have g:=z0s (dec n);by_cases h:(dec n).length<=1000
 ·have d:limS n=(str (dec n),0):=by unfold limS;rw[if_pos h]
  have i:((str (dec n)).size:Int)<=1000:=by omega
  have c:=qh d;clear d h g
  go_enter func172,ntmps172
  go_wp2_with fail
  go_ret2;exact⟨x4u (by rw[c.out]) (by rw[c.out];rfl),rfl⟩
 have d:limS n=(str [],2):=by unfold limS;rw[if_neg h]
 have i:(1000:Int)<((str (dec n)).size:Int):=by omega
 have c:=qh d;clear d h g
 go_enter func172,ntmps172
 go_wp2_with fail
 go_ret2;exact⟨x4u (by rw[c.out];rfl) (by rw[c.out];rfl),rfl⟩
def AddI (xs ys l:List Nat) (k c:Nat):Prop:=dval l+10 ^ k*c=dval (xs.take k)+dval (ys.take k)/\Dig l/\l.length=k/\c<=1
theorem x1p {xs d l:List Nat} {k c a b:Nat} (h:AddI xs d l k c) (i:a=nth xs k) (hb:b=nth d k) (p:a<10) (r:b<10):AddI xs d (l++[(a+b+c) % 10]) (k+1) ((a+b+c) / 10):=by
 obtain⟨o,j,g,s⟩:=h;refine⟨?_,x5t j (by omega),by rw[List.length_append,g];rfl,by omega⟩;rw[y4z,g,z2y,z2y,<- i,<- hb,Nat.pow_succ,Nat.mul_assoc];have e:=Nat.mod_add_div (a+b+c) 10;have e2:10 ^ k*((a+b+c) % 10)+10 ^ k*(10*((a+b+c) / 10))=10 ^ k*a+10 ^ k*b+10 ^ k*c:=by
  rw[<- Nat.mul_add,e,Nat.mul_add,Nat.mul_add]
 omega
theorem v8a {xs d l:List Nat} {k c:Nat} (h:AddI xs d l k c) (o:Dig xs) (i:Dig d) (s:xs.length<k) (v:d.length<k):dval l=dval xs+dval d:=by
 obtain⟨g,p,z,A⟩:=h;rw[List.take_of_length_le (by omega),List.take_of_length_le (by omega)] at g;obtain⟨j,rfl⟩:∃ j,k=j+1:=⟨k-1,by omega⟩;have r:dval xs<10 ^ j:=Nat.lt_of_lt_of_le (y6c o) (Nat.pow_le_pow_right (by omega) (by omega));have u:dval d<10 ^ j:=Nat.lt_of_lt_of_le (y6c i) (Nat.pow_le_pow_right (by omega) (by omega));rw[Nat.pow_succ] at g;have:c=0:=by
  rcases Nat.eq_zero_or_pos c with h|h
  ·exact h
  have:10 ^ j*10*1<=10 ^ j*10*c:=Nat.mul_le_mul_left _ h;omega
 subst this;omega
def LessI (xs ys l:List Nat) (k c:Nat):Prop:=dval l+dval (ys.take k)=dval (xs.take k)+10 ^ k*c/\Dig l/\l.length=k/\c<=1
theorem y8i {xs g l:List Nat} {k c a b d c':Nat} (h:LessI xs g l k c) (o:a=nth xs k) (hb:b=nth g k) (p:d<10) (s:d+b+c=a+10*c') (i:c'<=1):LessI xs g (l++[d]) (k+1) c':=by
 obtain⟨u,r,j,v⟩:=h;refine⟨?_,x5t r p,by rw[List.length_append,j];rfl,i⟩;rw[y4z,j,z2y,z2y,<- o,<- hb,Nat.pow_succ,Nat.mul_assoc];have e2:10 ^ k*d+10 ^ k*b+10 ^ k*c=10 ^ k*a+10 ^ k*(10*c'):=by
  rw[<- Nat.mul_add,<- Nat.mul_add,s,Nat.mul_add]
 omega
theorem v0k {xs d l:List Nat} {c:Nat} (h:LessI xs d l xs.length c) (o:d.length<=xs.length) (p:dval d<=dval xs):dval l=dval xs-dval d/\Dig l/\l.length=xs.length:=by
 obtain⟨k,g,i,r⟩:=h;rw[List.take_of_length_le (by omega),List.take_of_length_le (by omega)] at k;have j:=y6c g;rw[i] at j;have:c=0:=by
  rcases Nat.eq_zero_or_pos c with h|h
  ·exact h
  have:10 ^ xs.length*1<=10 ^ xs.length*c:=Nat.mul_le_mul_left _ h;omega
 subst this;exact⟨by omega,g,i⟩
theorem y5m (vx vy:Value) (xs A:List Nat) (w:World) (X:Sl w .i64 vx xs) (Z:Sl w .i64 vy A) (dx:Dig xs) (dy:Dig A) (hl:A.length<=xs.length) (hv:dval A<=dval xs) (a2:xs.length<=100000) :
  Calls prog 175 #[vx,vy] w fun e w'=>∃ ls,dval ls=dval xs-dval A/\Dig ls/\ls.length=xs.length/\ListEnd ls w e w':=by
 obtain⟨i0,hi,O,N,K⟩:=info_parts y4j;obtain⟨ax,cx,rfl⟩:=X.shape;obtain⟨ay,cy,rfl⟩:=Z.shape;have HX:=qh X;clear X;have HY:=qh Z;clear Z;have W:=qh dx;clear dx;have T:=qh dy;clear dy;have U:=qh hl;clear hl;have HV:=qh hv;clear hv
 go_enter func175,ntmps175
 go_wp2_with fail
 go_loopw [5,6,7] (fun v c i wr=>∃ (k j:Nat) (l:List Nat),k<=xs.length/\i=.int .i64 (k:Int)/\c=.int .i64 (j:Int)/\LessI xs A l k j/\Own wr w.heap.size 3 .i64 v l/\Below w.heap.size w wr) (fun _ _ i _=>xs.length-(intOf i).toNat)
 case atStart=>exact⟨0,0,[],Nat.zero_le _,rfl,rfl,⟨by simp[dval],x3p,rfl,by omega⟩,Own.nil _ _ _ _,Below.refl _ _⟩
 obtain⟨k,j,l,hk,rfl,rfl,r,p,hb⟩:=hrel;have E:l.length=k:=r.2.2.1;have a3:(j:Int)<=1:=by have:=r.2.2.2;omega
 have s:=qh r;clear r;obtain⟨ad,Y,rfl⟩:=p.shape;rw[E] at p ⊢;have R:=qh p;clear p;have D:=qh hb;clear hb;have P:=D.out.size;have H:=qh E;clear E;by_cases a5:k<xs.length
 ·obtain⟨a,S⟩:=exq (nth xs k);obtain⟨b,hb⟩:=exq (nth A k);have a4:(a:Int)<=9:=by have:=W.out k;rw[<- S] at this;omega
  have a1:(b:Int)<=9:=by have:=T.out k;rw[<- hb] at this;omega
  have Q:=qh S;clear S;have z:=qh hb;clear hb;have C:wr.ownsRow w.heap.size 3 1 (.slice ad k Y) k (vals .i64 l):=by have:=R.out.raw;rwa [H.out] at this
  have B:=qh C;clear C;by_cases o:a<b+j
  ·have hg:decide (((a:Int)-(b:Int)-(j:Int))<0)=true:=decide_eq_true (by omega);have u:((a:Int)-(b:Int)-(j:Int)+10)=(((a+10-b-j):Nat):Int):=by omega
   have G:=qh u;clear u;have h:=qh o;clear o
   go_wp2_with fail
   have q1:=z7s _ xs k wr (HX.out.below D.out (Nat.le_refl _)) (by omega);rw[<- Q.out] at q1;refine q1.mono ?_;clear q1;rintro e w0 ⟨rfl,rfl⟩
   go_wp2_with fail
   have q2:=z7s _ A k wr (HY.out.below D.out (Nat.le_refl _)) (by omega);rw[<- z.out] at q2;refine q2.mono ?_;clear q2;rintro e w0 ⟨rfl,rfl⟩
   go_wp2_with (at_builtin;refine wpList_append_own _ rfl (.tmp 28) (.tmp 30) 27 rfl w.heap.size 3 i0 (.int .i64 0) 1 8 underlying27 hi O N K rfl (by decide) _ _ _ rfl (World.ownsRow.alloc B.out _) ⟨wr.heap.size,0,none⟩ 1 1 [.int .i64 ((a:Int)-(b:Int)-(j:Int)+10)] rfl rfl (cell_one_new _ _ _) (one_cell _ _) (by unfold maxLen;omega) (by omega) (by simp;omega) ?_;intro v' w1 d g _)
   rw[G.out] at d;obtain⟨L,hb⟩:=R.out.appended D.out P (by rw[H.out];exact d) g;clear d g;have I:=qh L;clear L;have F:=qh hb;clear hb
   try go_wp2_with fail
   go_roundw
   case rel=>exact⟨k+1,1,l++[(a+10-b-j)],by omega,by go_num,rfl,y8i s.out Q.out z.out (by have:=h.out;omega) (by have:=h.out;omega) (by omega),I.out,F.out⟩
   simp[intOf];omega
  have hg:decide (((a:Int)-(b:Int)-(j:Int))<0)=false:=decide_eq_false (by omega);have u:((a:Int)-(b:Int)-(j:Int))=(((a-b-j):Nat):Int):=by omega
  have G:=qh u;clear u;have h:=qh o;clear o
  go_wp2_with fail
  have q1:=z7s _ xs k wr (HX.out.below D.out (Nat.le_refl _)) (by omega);rw[<- Q.out] at q1;refine q1.mono ?_;clear q1;rintro e w0 ⟨rfl,rfl⟩
  go_wp2_with fail
  have q2:=z7s _ A k wr (HY.out.below D.out (Nat.le_refl _)) (by omega);rw[<- z.out] at q2;refine q2.mono ?_;clear q2;rintro e w0 ⟨rfl,rfl⟩
  go_wp2_with (at_builtin;refine wpList_append_own _ rfl (.tmp 28) (.tmp 30) 27 rfl w.heap.size 3 i0 (.int .i64 0) 1 8 underlying27 hi O N K rfl (by decide) _ _ _ rfl (World.ownsRow.alloc B.out _) ⟨wr.heap.size,0,none⟩ 1 1 [.int .i64 ((a:Int)-(b:Int)-(j:Int))] rfl rfl (cell_one_new _ _ _) (one_cell _ _) (by unfold maxLen;omega) (by omega) (by simp;omega) ?_;intro v' w1 d g _)
  rw[G.out] at d;obtain⟨L,hb⟩:=R.out.appended D.out P (by rw[H.out];exact d) g;clear d g;have I:=qh L;clear L;have F:=qh hb;clear hb
  try go_wp2_with fail
  go_roundw
  case rel=>exact⟨k+1,0,l++[(a-b-j)],by omega,by go_num,rfl,y8i s.out Q.out z.out (by have:=h.out;omega) (by have:=h.out;omega) (by omega),I.out,F.out⟩
  simp[intOf];omega
 have J:k=xs.length:=by omega
 have hi:=s.out;rw[J] at hi;obtain⟨e1,e2,e3⟩:=v0k hi U.out HV.out;have E1:=qh e1;have E2:=qh e2;have E3:=qh e3;clear e1 e2 e3 hi J
 go_wp2_with fail
 go_ret;exact⟨l,E1.out,E2.out,E3.out,_,rfl,R.out,D.out⟩
theorem v7q (s t:ByteArray) (w:World) (hs:s.size<=maxLen) (ht:t.size<=maxLen) :
  Calls prog 138 #[.string s,.string t] w (PairEnd (addF s t) w):=by
 have c1:=fun w=>z1y s w hs;have c2:=fun w=>z1y t w ht;clear hs ht;cases A:vld s with
 | false =>
  have L:addF s t=(str [],1):=by unfold addF;rw[A];rfl
  rw[L];unfold vld at A;rw[A] at c1;clear L A c2;have Z:=qh c1;clear c1
  go_enter func138,ntmps138
  go_wp2_with fail
  refine(Z.out _).mono ?_;rintro e w' ⟨rfl,rfl⟩;go_wp2;go_ret2;exact⟨rfl,Below.refl _ _⟩
 | true =>
  cases W:vld t with
  | false =>
   have L:addF s t=(str [],1):=by unfold addF;rw[A,W];rfl
   rw[L];unfold vld at A W;rw[A] at c1;rw[W] at c2;clear L A W;have Z:=qh c1;clear c1;have C2:=qh c2;clear c2
   go_enter func138,ntmps138
   go_wp2_with fail
   refine(Z.out _).mono ?_;rintro e w' ⟨rfl,rfl⟩
   go_wp2_with fail
   refine(C2.out _).mono ?_;rintro e w' ⟨rfl,rfl⟩;go_wp2;go_ret2;exact⟨rfl,Below.refl _ _⟩
  | true =>
   rw[show z0w (bts s)=true from A] at c1;rw[show z0w (bts t)=true from W] at c2;have Z:=qh c1;clear c1;have C2:=qh c2;clear c2;have H1:=qh A;clear A;have H2:=qh W;clear W;have L:addF s t=limS (val s+val t):=by unfold addF;rw[H1.out,H2.out];rfl
   rw[L];clear L;have d1:=fun w=>z2u s w (by have:=z2d H1.out;omega) (z0m H1.out).2.2.2;have D1:=qh d1;clear d1;have d2:=fun w=>z2u t w (by have:=z2d H2.out;omega) (z0m H2.out).2.2.2;have D2:=qh d2;clear d2;have o1:=z3h (z0m H1.out).2.2.2;have o2:=z3h (z0m H2.out).2.2.2;have b4:=(z2d H1.out).2;have b6:=(z2d H2.out).2;have n1:=z2j (bts s);have n2:=z2j (bts t);rw[z0j] at n1 n2;obtain⟨h,X⟩:=exq (digL (bts s));obtain⟨r,Q⟩:=exq (digL (bts t));rw[<- X] at o1 n1;rw[<- Q] at o2 n2;have d4:h.length<=1000:=by omega
   have e0:r.length<=1000:=by omega
   have O1:=qh o1;clear o1;have O2:=qh o2;clear o2;have XS:=qh X;clear X;have YS:=qh Q;clear Q;clear b4 b6 n1 n2
   go_enter func138,ntmps138
   go_wp2_with fail
   refine(Z.out _).mono ?_;rintro e w' ⟨rfl,rfl⟩
   go_wp2_with fail
   refine(C2.out _).mono ?_;rintro e w' ⟨rfl,rfl⟩
   go_wp2_with fail
   refine(D1.out w).mono ?_;rintro e w1 ⟨v1,rfl,H,a5⟩;rw[<- XS.out] at H;obtain⟨ax,cx,rfl⟩:=H.shape;have c7:=qh H;clear H;have a1:=qh a5;clear a5;have c6:=a1.out.size
   go_wp2_with fail
   refine(D2.out w1).mono ?_;rintro e Y ⟨v2,rfl,F,U⟩;rw[<- YS.out] at F;obtain⟨ay,cy,rfl⟩:=F.shape;have b5:=qh F;clear F;have P:=a1.out.trans (U.mono c6);have a2:=c7.out.sl.below U (Nat.le_refl _);have a3:=qh P;clear P U;have b7:=a3.out.size;have HX:=qh a2;clear a2;have a9:=b5.out.sl;have HY:=qh a9;clear a9
   go_wp2_with fail
   obtain⟨i0,hi,a7,J,N⟩:=info_parts y4j
   go_loopw [8,9,10] (fun v c i wr=>∃ (k u:Nat) (l:List Nat),k<=max h.length r.length+1/\i=.int .i64 (k:Int)/\c=.int .i64 (u:Int)/\AddI h r l k u/\Own wr Y.heap.size 3 .i64 v l/\Below Y.heap.size Y wr) (fun _ _ i _=>max h.length r.length+1-(intOf i).toNat)
   case atStart=>exact⟨0,0,[],Nat.zero_le _,rfl,rfl,⟨by simp[dval],x3p,rfl,by omega⟩,Own.nil _ _ _ _,Below.refl _ _⟩
   obtain⟨k,u,l,hk,rfl,rfl,p,o,hb⟩:=hrel;have R:l.length=k:=p.2.2.1;have d7:(u:Int)<=1:=by have:=p.2.2.2;omega
   have j:=qh p;clear p;have b3:k<=1001:=by omega
   have HK:=qh hk;clear hk;obtain⟨ad,c8,rfl⟩:=o.shape;rw[R] at o ⊢;have HO:=qh o;clear o;have O:=qh hb;clear hb;have b2:=O.out.size;have E:=qh R;clear R;by_cases D:k<=h.length\/k<=r.length
   ·obtain⟨a,ha⟩:=exq (nth h k);obtain⟨b,hb⟩:=exq (nth r k);have d9:(a:Int)<=9:=by have:=O1.out.1 k;rw[<- ha] at this;omega
    have d3:(b:Int)<=9:=by have:=O2.out.1 k;rw[<- hb] at this;omega
    have HA:=qh ha;clear ha;have G:=qh hb;clear hb;have K:wr.ownsRow Y.heap.size 3 1 (.slice ad k c8) k (vals .i64 l):=by have:=HO.out.raw;rwa [E.out] at this
    have I:=qh K;clear K;have B:=qh D;have a6:(((a:Int)+(b:Int)+(u:Int)) % 10)=(((a+b+u) % 10:Nat):Int):=by omega
    have a4:=qh a6;clear a6;by_cases c9:k<=h.length
    ·clear D
     go_wp2_with fail
     have q1:=z7s _ h k wr (HX.out.below O.out (Nat.le_refl _)) (by omega);rw[<- HA.out] at q1;refine q1.mono ?_;clear q1;rintro e w0 ⟨rfl,rfl⟩
     go_wp2_with fail
     have q2:=z7s _ r k wr (HY.out.below O.out (Nat.le_refl _)) (by omega);rw[<- G.out] at q2;refine q2.mono ?_;clear q2;rintro e w0 ⟨rfl,rfl⟩
     go_wp2_with (at_builtin;refine wpList_append_own _ rfl (.tmp 45) (.tmp 48) 27 rfl Y.heap.size 3 i0 (.int .i64 0) 1 8 underlying27 hi a7 J N rfl (by decide) _ _ _ rfl (World.ownsRow.alloc I.out _) ⟨wr.heap.size,0,none⟩ 1 1 [.int .i64 (((a:Int)+(b:Int)+(u:Int)) % 10)] rfl rfl (cell_one_new _ _ _) (one_cell _ _) (by unfold maxLen;omega) (by omega) (by simp;omega) ?_;intro v' b8 d g _)
     rw[a4.out] at d;obtain⟨ho,hb⟩:=HO.out.appended O.out b2 (by rw[E.out];exact d) g;clear d g;have S:=qh ho;clear ho;have T:=qh hb;clear hb
     try go_wp2_with fail
     go_roundw
     case rel=>exact⟨k+1,(a+b+u) / 10,l++[(a+b+u) % 10],by have:=B.out;omega,by go_num,by go_num,x1p j.out HA.out G.out (by omega) (by omega),S.out,T.out⟩
     have:=B.out;have:=HK.out;simp[intOf];omega
    have d0:k<=r.length:=by omega
    have hg:decide ((k:Int)<=(h.length:Int))=false:=decide_eq_false (by omega);clear D
    go_wp2_with fail
    have q1:=z7s _ h k wr (HX.out.below O.out (Nat.le_refl _)) (by omega);rw[<- HA.out] at q1;refine q1.mono ?_;clear q1;rintro e w0 ⟨rfl,rfl⟩
    go_wp2_with fail
    have q2:=z7s _ r k wr (HY.out.below O.out (Nat.le_refl _)) (by omega);rw[<- G.out] at q2;refine q2.mono ?_;clear q2;rintro e w0 ⟨rfl,rfl⟩
    go_wp2_with (at_builtin;refine wpList_append_own _ rfl (.tmp 45) (.tmp 48) 27 rfl Y.heap.size 3 i0 (.int .i64 0) 1 8 underlying27 hi a7 J N rfl (by decide) _ _ _ rfl (World.ownsRow.alloc I.out _) ⟨wr.heap.size,0,none⟩ 1 1 [.int .i64 (((a:Int)+(b:Int)+(u:Int)) % 10)] rfl rfl (cell_one_new _ _ _) (one_cell _ _) (by unfold maxLen;omega) (by omega) (by simp;omega) ?_;intro v' b8 d g _)
    rw[a4.out] at d;obtain⟨ho,hb⟩:=HO.out.appended O.out b2 (by rw[E.out];exact d) g;clear d g;have S:=qh ho;clear ho;have T:=qh hb;clear hb
    try go_wp2_with fail
    go_roundw
    case rel=>exact⟨k+1,(a+b+u) / 10,l++[(a+b+u) % 10],by have:=B.out;omega,by go_num,by go_num,x1p j.out HA.out G.out (by omega) (by omega),S.out,T.out⟩
    have:=B.out;have:=HK.out;simp[intOf];omega
   have hg:decide ((k:Int)<=(h.length:Int))=false:=decide_eq_false (by omega);have d6:decide ((k:Int)<=(r.length:Int))=false:=decide_eq_false (by omega);have d8:h.length<k:=by omega
   have d5:r.length<k:=by omega
   have z:=v8a j.out O1.out.1 O2.out.1 (by omega) (by omega);rw[O1.out.2,O2.out.2] at z;have C:dval l=val s+val t:=z;clear z;have a8:=qh C;clear C;have B:=qh D;clear D
   go_wp2_with fail
   have q3:=z9d _ l wr HO.out.sl j.out.2.1 (by rw[E.out];omega);rw[a8.out] at q3;refine q3.mono ?_;clear q3;rintro e w4 ⟨rfl,b0⟩;have b1:=a3.out.trans ((O.out.mono b7).trans (b0.mono (by omega)));have b9:=qh b1;clear b1 b0
   go_wp2_with fail
   refine(y3m (val s+val t) w4).mono ?_;rintro e w5 ⟨rfl,rfl⟩
   go_wp2_with fail
   go_ret2;exact⟨rfl,b9.out⟩
theorem v6d (s t:ByteArray) (w:World) (hs:s.size<=maxLen) (ht:t.size<=maxLen) :
  Calls prog 140 #[.string s,.string t] w (PairEnd (subF s t) w):=by
 have c1:=fun w=>z1y s w hs;have c2:=fun w=>z1y t w ht;clear hs ht;cases d:vld s with
 | false =>
  have i:subF s t=(str [],1):=by unfold subF;rw[d];rfl
  rw[i];unfold vld at d;rw[d] at c1;clear i d c2;have K:=qh c1;clear c1
  go_enter func140,ntmps140
  go_wp2_with fail
  refine(K.out _).mono ?_;rintro e L ⟨rfl,rfl⟩;go_wp2;go_ret2;exact⟨rfl,Below.refl _ _⟩
 | true =>
  cases I:vld t with
  | false =>
   have i:subF s t=(str [],1):=by unfold subF;rw[d,I];rfl
   rw[i];unfold vld at d I;rw[d] at c1;rw[I] at c2;clear i d I;have K:=qh c1;clear c1;have C2:=qh c2;clear c2
   go_enter func140,ntmps140
   go_wp2_with fail
   refine(K.out _).mono ?_;rintro e L ⟨rfl,rfl⟩
   go_wp2_with fail
   refine(C2.out _).mono ?_;rintro e L ⟨rfl,rfl⟩;go_wp2;go_ret2;exact⟨rfl,Below.refl _ _⟩
  | true =>
   rw[show z0w (bts s)=true from d] at c1;rw[show z0w (bts t)=true from I] at c2;have K:=qh c1;clear c1;have C2:=qh c2;clear c2;have r:=qh d;clear d;have A:=qh I;clear I;have hc:=fun w=>z6v (val s) (val t) w (by have:=y2f r.out;unfold fits at this;omega);rw[y5u r.out,y5u A.out] at hc;have d1:=fun w=>z2u s w (by have:=z2d r.out;omega) (z0m r.out).2.2.2;have D1:=qh d1;clear d1;have d2:=fun w=>z2u t w (by have:=z2d A.out;omega) (z0m A.out).2.2.2;have D2:=qh d2;clear d2;have o1:=z3h (z0m r.out).2.2.2;have o2:=z3h (z0m A.out).2.2.2;have a1:=(z2d r.out).2;have a3:=(z2d A.out).2;have n1:=z2j (bts s);have n2:=z2j (bts t);rw[z0j] at n1 n2;obtain⟨C,J⟩:=exq (digL (bts s));obtain⟨H,E⟩:=exq (digL (bts t));rw[<- J] at o1 n1;rw[<- E] at o2 n2;have c6:C.length<=1000:=by omega
   have c7:H.length<=1000:=by omega
   have O1:=qh o1;clear o1;have O2:=qh o2;clear o2;have XS:=qh J;clear J;have YS:=qh E;clear E;clear a1 a3 n1 n2;have b0:cmpN (val s) (val t)=if val s<val t then -1 else if val t<val s then 1 else 0:=rfl
   clear b0;have HC:=qh hc;clear hc;by_cases c:val s<val t
   ·have i:subF s t=(str [],4):=by unfold subF;rw[r.out,A.out,if_pos c];rfl
    rw[i];clear i;have k:=z4k c;have b8:=qh k;clear k c
    go_enter func140,ntmps140
    go_wp2_with fail
    refine(K.out _).mono ?_;rintro e L ⟨rfl,rfl⟩
    go_wp2_with fail
    refine(C2.out _).mono ?_;rintro e L ⟨rfl,rfl⟩
    go_wp2_with fail
    have q0:=HC.out w;unfold CmpEnd at q0;rw[b8.out] at q0;refine q0.mono ?_;clear q0;rintro e w0 ⟨rfl,j⟩;have p:=qh j;clear j
    go_wp2_with fail
    go_ret2;exact⟨rfl,p.out⟩
   have i:subF s t=(str (dec (val s-val t)),0):=by unfold subF;rw[r.out,A.out,if_neg c];rfl
   rw[i];clear i;have k:(0:Int)<=cmpN (val s) (val t):=by unfold cmpN;rw[if_neg c];split<;>decide
   obtain⟨cc,D⟩:=exq (cmpN (val s) (val t));rw[<- D] at k;have b4:=qh D;clear D;have N:H.length<=C.length:=by
    rw[YS.out,XS.out,z2j,z2j];have e1:bts s=dec (val s):=by unfold val;rw[z3x r.out]
    have e2:bts t=dec (val t):=by unfold val;rw[z3x A.out]
    rw[e1,e2]
    rcases Nat.lt_or_ge (dec (val s)).length (dec (val t)).length with h|h
    ·exact absurd (y2s h) c
    exact h
   have P:dval H<=dval C:=by rw[O1.out.2,O2.out.2];exact Nat.le_of_not_lt c
   have S:dval C-dval H=val s-val t:=by rw[O1.out.2,O2.out.2];rfl
   have b1:=qh N;clear N;have a4:=qh P;clear P;have b7:=qh S;clear S c
   go_enter func140,ntmps140
   go_wp2_with fail
   refine(K.out _).mono ?_;rintro e L ⟨rfl,rfl⟩
   go_wp2_with fail
   refine(C2.out _).mono ?_;rintro e L ⟨rfl,rfl⟩
   go_wp2_with fail
   have q0:=HC.out w;unfold CmpEnd at q0;rw[<- b4.out] at q0;refine q0.mono ?_;clear q0;rintro e w0 ⟨rfl,j⟩;have p:=qh j;clear j;have b6:=p.out.size
   go_wp2_with fail
   refine(D1.out w0).mono ?_;rintro e w1 ⟨v1,rfl,o,T⟩;rw[<- XS.out] at o;obtain⟨ax,cx,rfl⟩:=o.shape;have b3:=qh o;clear o;have z:=p.out.trans (T.mono b6);have O:=qh z;clear z T;have b2:=O.out.size
   go_wp2_with fail
   refine(D2.out w1).mono ?_;rintro e w2 ⟨v2,rfl,l,G⟩;rw[<- YS.out] at l;obtain⟨ay,cy,rfl⟩:=l.shape;have a2:=qh l;clear l;have B:=O.out.trans (G.mono b2);have Q:=b3.out.sl.below G (Nat.le_refl _);have R:=qh B;clear B G;have a7:=R.out.size;have HX:=qh Q;clear Q
   go_wp2_with fail
   refine(y5m _ _ C H w2 HX.out a2.out.sl O1.out.1 O2.out.1 b1.out a4.out (by omega)).mono ?_;rintro e w3 ⟨ls,g,v,W,v3,rfl,F,Z⟩;obtain⟨al,cl,rfl⟩:=F.shape;rw[b7.out] at g;have a6:=qh g;clear g;have b5:=qh v;clear v;have b9:ls.length<=1000:=by omega
   clear W;have a8:=qh F;clear F;have u:=R.out.trans (Z.mono a7);have U:=qh u;clear u Z;have a5:=U.out.size
   go_wp2_with fail
   have q3:=z9d _ ls w3 a8.out.sl b5.out (by omega);rw[a6.out] at q3;refine q3.mono ?_;clear q3;rintro e w4 ⟨rfl,X⟩;have Y:=U.out.trans (X.mono a5);have a9:=qh Y;clear Y X
   go_wp2_with fail
   go_ret2;exact⟨rfl,a9.out⟩
end
section
open Go.RowKit
theorem u0u {L:List Nat} (h:Dig L) (j v:Nat) (c:v<10):Dig (L.set j v):=fun i=>by
 by_cases d:j<L.length
 ·rw[y3d L j v i d];split
  ·exact c
  exact h i
 rw[List.set_eq_of_length_le (by omega)];exact h i
theorem v7a (L:List Nat):∀ (j v:Nat),j<L.length->dval (L.set j v)+10 ^ j*nth L j=dval L+10 ^ j*v:=by
 induction L with
 | nil=>intro j v h;simp at h
 | cons x L ih =>
  intro j v h;cases j with
  | zero=>simp only[List.set_cons_zero,dval,z7z,Nat.pow_zero];omega
  | succ j =>
   have:=ih j v (by simpa using h);simp only[List.set_cons_succ,dval,z5w,Nat.pow_succ];have e:10*(dval (L.set j v)+10 ^ j*nth L j)=10*(dval L+10 ^ j*v):=by rw[this]
   rw[Nat.mul_add,Nat.mul_add,<- Nat.mul_assoc,<- Nat.mul_assoc,Nat.mul_comm 10 (10 ^ j)] at e;omega
theorem v1c (k i:Nat):nth (List.replicate k 0) i=0:=by unfold nth;simp[List.getD_eq_getElem?_getD,List.getElem?_replicate];split<;>rfl
structure MulIR (xs ys L:List Nat) (i k c:Nat):Prop where
 dig:Dig L
 carry:c<10
 len:L.length=xs.length+ys.length+1
 val:dval L+10 ^ (i+k)*c=dval (xs.take i)*dval ys+10 ^ i*(nth xs i*dval (ys.take k))
structure MulOR (xs ys L:List Nat) (i:Nat):Prop where
 dig:Dig L
 len:L.length=xs.length+ys.length+1
 val:dval L=dval (xs.take i)*dval ys
theorem MulOR.start (xs c:List Nat):MulOR xs c (List.replicate (xs.length+c.length+1) 0) 0 :=
 ⟨fun i=>by rw[v1c];omega,by simp,by rw[x2e (v1c _)];simp[dval]⟩
theorem MulOR.inner {xs c L:List Nat} {i:Nat} (h:MulOR xs c L i):MulIR xs c L i 0 0 :=
 ⟨h.dig,by omega,h.len,by rw[h.val];simp[dval]⟩
theorem x3y {l c x y:Nat} (i:l<10) (g:c<10) (h:x<10) (d:y<10):l+x*y+c<100:=by
 have:x*y<=9*9:=Nat.mul_le_mul (by omega) (by omega);omega
theorem MulIR.step {xs d L:List Nat} {i k c l x y:Nat} (h:MulIR xs d L i k c) (B:Dig xs) (A:Dig d) (hi:i<xs.length) (D:k<d.length+1) (v:l=nth L (i+k)) (r:x=nth xs i) (u:y=nth d k) :
  MulIR xs d (L.set (i+k) ((l+x*y+c) % 10)) i (k+1) ((l+x*y+c) / 10):=by
 have hb:=x3y (h.dig (i+k)) h.carry (B i) (A k);have s:i+k<L.length:=by rw[h.len];omega
 have o:=v7a L (i+k) ((l+x*y+c) % 10) s;have g:=h.val;have j:=z2y d k;rw[<- v,<- r,<- u] at hb;rw[<- v] at o;rw[<- u] at j;rw[<- r] at g;generalize hp:l+x*y+c=p at *;have C:10 ^ (i+k)*l+10 ^ (i+k)*(x*y)+10 ^ (i+k)*c=10 ^ (i+k)*p:=by rw[<- hp,Nat.mul_add,Nat.mul_add]
 have z:10 ^ (i+k)*p=10 ^ (i+k)*(p % 10)+10 ^ (i+k)*10*(p / 10):=by
  rw[Nat.mul_assoc,<- Nat.mul_add,Nat.mod_add_div]
 refine⟨u0u h.dig _ _ (by omega),by omega,by simp[h.len],?_⟩;rw[j,Nat.mul_add,Nat.mul_add,show i+(k+1)=i+k+1 by omega,Nat.pow_succ 10 (i+k),<- r];have e:10 ^ i*(x*(10 ^ k*y))=10 ^ (i+k)*(x*y):=by
  rw[Nat.pow_add,Nat.mul_left_comm x,Nat.mul_assoc]
 rw[e];omega
theorem MulIR.done {xs d L:List Nat} {i c:Nat} (h:MulIR xs d L i (d.length+1) c) (l:Dig xs) (k:Dig d) (hi:i<xs.length):MulOR xs d L (i+1):=by
 refine⟨h.dig,h.len,?_⟩;have g:=h.val;rw[List.take_of_length_le (by omega:d.length<=d.length+1)] at g;have e:dval (xs.take i)*dval d+10 ^ i*(nth xs i*dval d)=dval (xs.take (i+1))*dval d:=by
  rw[z2y,Nat.add_mul,Nat.mul_assoc]
 rw[e] at g;have p:dval (xs.take (i+1))<10 ^ (i+1):=by
  have:=y6c (y4m l (i+1));rw[List.length_take,Nat.min_eq_left (by omega)] at this;exact this
 have s:=y6c k;have o:dval (xs.take (i+1))*dval d<10 ^ (i+1)*10 ^ d.length:=by
  have r:dval (xs.take (i+1))*dval d<=dval (xs.take (i+1))*10 ^ d.length:=Nat.mul_le_mul_left _ (by omega);have u:dval (xs.take (i+1))*10 ^ d.length<10 ^ (i+1)*10 ^ d.length:=Nat.mul_lt_mul_of_pos_right p (Nat.pow_pos (by omega));omega
 rw[<- Nat.pow_add,show i+1+d.length=i+(d.length+1) by omega] at o
 rcases Nat.eq_zero_or_pos c with j|j
 ·subst j;rw[Nat.mul_zero,Nat.add_zero] at g;exact g
 have:10 ^ (i+(d.length+1))*1<=10 ^ (i+(d.length+1))*c:=Nat.mul_le_mul_left _ j;omega
theorem MulOR.done {xs c L:List Nat} (h:MulOR xs c L xs.length):dval L=dval xs*dval c:=by rw[h.val,List.take_length]
set_option maxRecDepth 100000 in
theorem v8r (s t:ByteArray) (w:World) (hs:s.size<=maxLen) (ht:t.size<=maxLen) :
  Calls prog 141 #[.string s,.string t] w (PairEnd (mulF s t) w):=by
 have c1:=fun w=>z1y s w hs;have c2:=fun w=>z1y t w ht;clear hs ht;cases A:vld s with
 | false =>
  have S:mulF s t=(str [],1):=by unfold mulF;rw[A];rfl
  rw[S];unfold vld at A;rw[A] at c1;clear S A c2;have C1:=qh c1;clear c1
  go_enter func141,ntmps141
  go_wp2_with fail
  refine(C1.out _).mono ?_;rintro e w' ⟨rfl,rfl⟩;go_wp2;go_ret2;exact⟨rfl,Below.refl _ _⟩
 | true =>
  cases h2:vld t with
  | false =>
   have S:mulF s t=(str [],1):=by unfold mulF;rw[A,h2];rfl
   rw[S];unfold vld at A h2;rw[A] at c1;rw[h2] at c2;clear S A h2;have C1:=qh c1;clear c1;have C2:=qh c2;clear c2
   go_enter func141,ntmps141
   go_wp2_with fail
   refine(C1.out _).mono ?_;rintro e w' ⟨rfl,rfl⟩
   go_wp2_with fail
   refine(C2.out _).mono ?_;rintro e w' ⟨rfl,rfl⟩;go_wp2;go_ret2;exact⟨rfl,Below.refl _ _⟩
  | true =>
   rw[show z0w (bts s)=true from A] at c1;rw[show z0w (bts t)=true from h2] at c2;have C1:=qh c1;clear c1;have C2:=qh c2;clear c2;have H1:=qh A;clear A;have H2:=qh h2;clear h2;have S:mulF s t=limS (val s*val t):=by unfold mulF;rw[H1.out,H2.out];rfl
   rw[S];clear S;have d1:=fun w=>z2u s w (by have:=z2d H1.out;omega) (z0m H1.out).2.2.2;have D1:=qh d1;clear d1;have d2:=fun w=>z2u t w (by have:=z2d H2.out;omega) (z0m H2.out).2.2.2;have D2:=qh d2;clear d2;have o1:=z3h (z0m H1.out).2.2.2;have o2:=z3h (z0m H2.out).2.2.2;have d5:=(z2d H1.out).2;have d7:=(z2d H2.out).2;have n1:=z2j (bts s);have n2:=z2j (bts t);rw[z0j] at n1 n2;obtain⟨j,U⟩:=exq (digL (bts s));obtain⟨g,W⟩:=exq (digL (bts t));rw[<- U] at o1 n1;rw[<- W] at o2 n2;have h3:j.length<=1000:=by omega
   have i7:g.length<=1000:=by omega
   have O1:=qh o1;clear o1;have O2:=qh o2;clear o2;have XS:=qh U;clear U;have YS:=qh W;clear W;clear d5 d7 n1 n2
   go_enter func141,ntmps141
   go_wp2_with fail
   refine(C1.out _).mono ?_;rintro e w' ⟨rfl,rfl⟩
   go_wp2_with fail
   refine(C2.out _).mono ?_;rintro e w' ⟨rfl,rfl⟩
   go_wp2_with fail
   refine(D1.out w).mono ?_;rintro e w1 ⟨v1,rfl,O,b7⟩;rw[<- XS.out] at O;obtain⟨ax,cx,rfl⟩:=O.shape;have f5:=qh O;clear O;have a3:=qh b7;clear b7;have e1:=a3.out.size
   go_wp2_with fail
   refine(D2.out w1).mono ?_;rintro e J ⟨v2,rfl,N,Y⟩;rw[<- YS.out] at N;obtain⟨ay,cy,rfl⟩:=N.shape;have d6:=qh N;clear N;have Q:=a3.out.trans (Y.mono e1);have b6:=f5.out.sl.below Y (Nat.le_refl _);have a4:=qh Q;clear Q Y;have i3:=a4.out.size;have HX:=qh b6;clear b6;have a8:=d6.out.sl;have HY:=qh a8;clear a8;obtain⟨i0,g1,f8,g0,f7⟩:=info_parts y4j;obtain⟨wm,d0,d,X⟩:=run_make_full J w.heap.size 27 3 i0 (.int .i64 0) 1 underlying27 g1 f8 g0 .i64 .i64 (j.length+g.length+1) (by rw[f7];omega) (by unfold maxLen;omega) (by omega);rw[show ((j.length+g.length+1:Nat):Int)=(j.length:Int)+(g.length:Int)+1 by omega] at d0;have P:Below J.heap.size J wm:=(Below.refl _ _).grown X (Nat.le_refl _) (by simp);have a6:Below w.heap.size w wm:=a4.out.trans ((Below.refl _ _).grown X (by omega) (by simp));have b5:Own wm w.heap.size 3 .i64 (.slice (some ⟨J.heap.size,0,none⟩) (j.length+g.length+1) (j.length+g.length+1)) (List.replicate (j.length+g.length+1) 0):=by
    unfold Own;rw[z7c,List.length_replicate];have:=d;rw[Nat.mul_one,show (Value.int .i64 0).cells=#[Value.int .i64 0] from rfl,toList_madeCells_one] at this;exact this
   have HM:=qh a6;clear a6;have e3:=qh P;clear P;have d8:=qh b5;clear b5 d X;obtain⟨h8,i8,bx,ox,a2,b4,g7,b0,K,C⟩:=HX.out.open;rw[Value.slice.injEq] at a2;obtain⟨rfl,_,rfl⟩:=a2;unfold maxLen at b0;have g2:=qh C;clear C;have f1:=qh b4;clear b4;have g4:=qh K;clear K
   go_wp2_with fail
   clear d0
   go_loopw [9] (fun i wr=>∃ (k:Nat) (L:List Nat),k<=j.length/\i=.int .i64 (k:Int)/\MulOR j g L k/\Own wr w.heap.size 3 .i64 (.slice (some ⟨J.heap.size,0,none⟩) (j.length+g.length+1) (j.length+g.length+1)) L/\Below w.heap.size w wr/\Below J.heap.size J wr) (fun i _=>j.length-(intOf i).toNat)
   case atStart=>exact⟨0,_,Nat.zero_le _,rfl,MulOR.start j g,d8.out,HM.out,e3.out⟩
   obtain⟨i,L,i9,rfl,v,d,E,u⟩:=hrel;have b1:=qh v;clear v;have HO:=qh d;clear d;have Z:=qh E;clear E;have b3:=qh u;clear u;obtain⟨wo,rfl⟩:∃ wo:World,wo=wr:=⟨_,rfl⟩;by_cases T:i<j.length
   ·obtain rfl:=f1.out (by omega);have K:=g4.out (by omega)
    go_wp2_with fail
    go_loopw [10,11] (fun c q wr=>∃ (k z:Nat) (L:List Nat),k<=g.length+1/\q=.int .i64 (k:Int)/\c=.int .i64 (z:Int)/\MulIR j g L i k z/\Own wr w.heap.size 3 .i64 (.slice (some ⟨J.heap.size,0,none⟩) (j.length+g.length+1) (j.length+g.length+1)) L/\Below w.heap.size w wr/\Below J.heap.size J wr) (fun _ q _=>g.length+1-(intOf q).toNat)
    case atStart=>exact⟨0,0,L,Nat.zero_le _,rfl,rfl,b1.out.inner,HO.out,Z.out,b3.out⟩
    obtain⟨k,z,L',i4,rfl,rfl,a5,d,E,u⟩:=hrel;have G:=qh a5;clear a5;have D:=qh d;clear d;have R:=qh E;clear E;have o:=qh u;clear u;by_cases g8:k<=g.length
    ·have B:=G.out.len;have cl:=D.out.cell B (i+k) (by omega);have fl:=D.out.free B (i+k);have a9:=qh B;clear B;have c1:=(o.out.cell (p:=⟨bx,ox+i,none⟩) K).trans (g2.out i T);obtain⟨x,hx⟩:=exq (nth j i);obtain⟨y,hy⟩:=exq (nth g k);obtain⟨l,hl⟩:=exq (nth L' (i+k));rw[<- hl] at cl;rw[<- hx] at c1;have I:=G.out.step O1.out.1 O2.out.1 T (by omega) hl hx hy;have f9:=qh I;clear I;have e9:(x:Int)<=9:=by have:=O1.out.1 i;rw[<- hx] at this;omega
     have e6:(y:Int)<=9:=by have:=O2.out.1 k;rw[<- hy] at this;omega
     have e8:(l:Int)<=9:=by have:=G.out.dig (i+k);rw[<- hl] at this;omega
     have e4:(z:Int)<=9:=by have:=G.out.carry;omega
     have r:((x:Int)*(y:Int))=((x*y:Nat):Int):=by simp
     have f2:x*y<=9*9:=Nat.mul_le_mul (by omega) (by omega);have h4:(x:Int)*(y:Int)<=81:=by rw[r];omega
     have h5:0<=(x:Int)*(y:Int):=by rw[r];omega
     have a7:(((l:Int)+(x:Int)*(y:Int)+(z:Int)) % 10)=(((l+x*y+z) % 10:Nat):Int):=by rw[r];omega
     have b2:(((l:Int)+(x:Int)*(y:Int)+(z:Int)) / 10)=(((l+x*y+z) / 10:Nat):Int):=by rw[r];omega
     have d9:=qh a7;clear a7;have b9:wrap64 (((l:Int)+(x:Int)*(y:Int)+(z:Int)).tdiv 10)=(((l+x*y+z) / 10:Nat):Int):=by
      rw[Int.tdiv_eq_ediv_of_nonneg (by omega),b2,<- IntWalk.i64_left,IntKind.wrap_i64];omega
     have e0:=qh b9;clear b9;clear b2 r f2;have i2:=qh hx;clear hx;have f0:=qh hy;clear hy;have i6:=qh hl;clear hl;have b8:=HY.out.below o.out (Nat.le_refl _);have e5:=qh b8;clear b8;have d4:(i:Int)<=1000:=by omega
     have d3:(k:Int)<=1000:=by omega
     have h0:IntKind.i64.wrap ((i:Int)+(k:Int))=(i:Int)+(k:Int):=by rw[IntKind.wrap_i64];omega
     have h7:IntKind.i64.wrap ((x:Int)*(y:Int))=(x:Int)*(y:Int):=by rw[IntKind.wrap_i64];omega
     have i5:IntKind.i64.wrap ((l:Int)+(x:Int)*(y:Int))=(l:Int)+(x:Int)*(y:Int):=by rw[IntKind.wrap_i64];omega
     have h9:IntKind.i64.wrap ((l:Int)+(x:Int)*(y:Int)+(z:Int))=(l:Int)+(x:Int)*(y:Int)+(z:Int):=by rw[IntKind.wrap_i64];omega
     clear e9 e6 e8 e4;have g6:0<=(i:Int)+(k:Int):=by omega
     have g5:(i:Int)+(k:Int)<(j.length:Int)+(g.length:Int)+1:=by omega
     have g9:((i:Int)+(k:Int)).toNat=i+k:=by omega
     go_wp2_with fail
     go_quiet ((go_at_call 171;exact Calls.quiet_of_same ((z7s _ g k _ (e5.out.below (below_drewN (Below.refl _ wr) _) (Nat.le_refl _)) (by omega)).mono fun e w' h=>⟨by rw[h.1,<- f0.out],h.2.symm⟩)))
     go_wp2;go_roundw
     case rel =>
      have ho:=(D.out.kept (below_drewN (Below.refl _ wr) nq) (Nat.le_refl _)).set a9.out (i+k) ((l+x*y+z) % 10);exact⟨k+1,(l+x*y+z) / 10,L'.set (i+k) ((l+x*y+z) % 10),by omega,by go_num,by rw[e0.out],f9.out,by rw[d9.out];exact ho,(below_drewN R.out nq).setCell D.out.base.1 _,(below_drewN o.out nq).setCell (Nat.le_refl _) _⟩
     simp[intOf];omega
    have a1:k=g.length+1:=by omega
    have g3:=qh a1;clear a1;have h6:g.length<k:=by omega
    go_wp2_with fail
    go_roundw
    case rel =>
     have A:=G.out;rw[g3.out] at A;exact⟨i+1,L',by omega,by go_num,A.done O1.out.1 O2.out.1 T,D.out,R.out,o.out⟩
    simp[intOf];omega
   have c7:i=j.length:=by omega
   have v:=b1.out;rw[c7] at v;clear c7;have F:=v.done;rw[O1.out.2,O2.out.2] at F;have H:dval L=val s*val t:=F;clear F;have c6:=qh H;clear H;have e7:=Z.out.size;have q3:=z9d (.slice (some ⟨J.heap.size,0,none⟩) (j.length+g.length+1) (j.length+g.length+1)) L wo (by have:=HO.out.sl;exact this) v.dig (by rw[v.len];omega);rw[c6.out] at q3;have Q3:=qh q3;clear q3 v
   go_wp2_with fail
   refine Q3.out.mono ?_;rintro e w4 ⟨rfl,c8⟩;have c9:=Z.out.trans (c8.mono e7);have f4:=qh c9;clear c9 c8
   go_wp2_with fail
   refine(y3m (val s*val t) w4).mono ?_;rintro e w5 ⟨rfl,rfl⟩
   go_wp2_with fail
   go_ret2;exact⟨rfl,f4.out⟩
end
section
open Go.RowKit
structure DivI (l:List UInt8) (n:Nat) (qb:List UInt8) (rn i:Nat):Prop where
 len:qb.length=i
 dig:dgts qb=true
 lt:rn<n
 val:num qb*n+rn=num (l.take i)
theorem DivI.start (l:List UInt8) {n:Nat} (h:n≠0):DivI l n [] 0 0:=⟨rfl,rfl,by omega,by simp[num]⟩
theorem x8j {j:Nat} (h:j<10):dgt (byteOf j)=true:=by simp only[dgt,byteOf_toNat h];simp;omega
theorem DivI.step {l:List UInt8} {n:Nat} {d:List UInt8} {k i j m:Nat} {c:UInt8} (h:DivI l n d k i) (o:l.take (i+1)=l.take i++[c]) (p:m<n) (g:j<10) (r:m+j*n=10*k+(c.toNat-48)) :
  DivI l n (d++[byteOf j]) m (i+1):=by
 refine⟨by rw[List.length_append,h.len];rfl,by rw[z5j,h.dig,x8j g];rfl,p,?_⟩;rw[z5g,o,z5g,<- h.val,byteOf_toNat g,show 48+j-48=j by omega,Nat.add_mul,Nat.mul_add,Nat.mul_assoc];omega
theorem DivI.j_lt {n c m j d:Nat} (k:c<n) (g:d<10) (i:m+j*n=10*c+d):j<10:=by
 rcases Nat.lt_or_ge j 10 with h|h
 ·exact h
 have:10*n<=j*n:=Nat.mul_le_mul_right _ h;omega
theorem u1x (s:ByteArray) (i:Nat) (h:i<s.size):s.extract i (i+1)=str [s[i]]:=z6y (by
 rw[z1f];simp only[bts,ByteArray.data_extract,Array.toList_extract,List.extract_eq_take_drop];rw[show i+1-i=1 by omega,List.drop_eq_getElem_cons (by rw[show s.data.toList.length=s.size from z0j s];exact h),List.take_succ_cons,List.take_zero];rfl)
theorem u1f {c:UInt8} (h:dgt c=true):str [c]=str (dec (10*0+(c.toNat-48))):=by
 simp only[dgt,Bool.and_eq_true,decide_eq_true_eq] at h;rw[z1m (by omega),v8c (c:=c) (by omega)]
theorem u4j {c:UInt8} {d:Nat} (h:dgt c=true) (g:d≠0):str (dec d)++str [c]=str (dec (10*d+(c.toNat-48))):=by
 simp only[dgt,Bool.and_eq_true,decide_eq_true_eq] at h;rw[y0k (n:=10*d+(c.toNat-48)) (by omega),show (10*d+(c.toNat-48)) / 10=d by omega,v8c (c:=c) (by omega)];exact z6y (by simp[bts,str])
theorem v6v {m n d k:Nat} (hn:(dec n).length<=k) (c:m<n) (g:d<10):(dec (10*m+d)).length<=k+1:=by
 have:=(z1p.1 hn).1;exact z1p.2 ⟨by rw[Nat.pow_succ];omega,by omega⟩
theorem z6r {m n k:Nat} (h:m<=n) (hn:(dec n).length<=k):(dec m).length<=k:=by
 have:=z1p.1 hn;exact z1p.2 ⟨by omega,this.2⟩
theorem y7d {m n:Nat} (h:n<=m):(dec n).length<=(dec m).length:=z6r h (Nat.le_refl _)
def strN (v:Value):Nat:=match v with | .string s=>val s|_=>0
theorem y4e (n:Nat):strN (.string (str (dec n)))=n:=z1g n
structure Strip (l:List UInt8) (k:Nat):Prop where
 lt:k+1<=l.length
 val:num (l.drop k)=num l
theorem Strip.step {l:List UInt8} {k:Nat} (h:Strip l k) (g:k+1<l.length) (d:l[k].toNat=48):Strip l (k+1):=by
 refine⟨by omega,?_⟩;rw[<- h.val,List.drop_eq_getElem_cons (i:=k) (by omega)];generalize l.drop (k+1)=x;show num x=List.foldl (fun n c=>10*n+(c.toNat-48)) (10*0+(l[k].toNat-48)) x;rw[d];rfl
theorem x1y {l:List UInt8} {k:Nat} (h:Strip l k) (c:dgts l=true) (o:l.length<=1000) (g:k+1=l.length\/l[k]'(by have:=h.lt;omega)≠48):l.drop k=dec (num l):=by
 have j:=h.lt;rw[<- h.val];refine(z3x (y4u (by rw[List.length_drop];omega) (by rw[List.length_drop];omega) ?_ ?_)).symm
 ·rcases g with h|h
  ·left;rw[List.length_drop];omega
  right;rw[List.drop_eq_getElem_cons (i:=k) (by omega),List.headD_cons];exact h
 unfold dgts at *;rw[List.all_eq_true] at *;intro x d;exact c x (List.mem_of_mem_drop d)
set_option maxRecDepth 100000 in
theorem x7a (s t:ByteArray) (w:World) (hs:s.size<=maxLen) (ht:t.size<=maxLen) :
  Calls prog 143 #[.string s,.string t] w (TripEnd (divF s t) w):=by
 have c1:=fun w=>z1y s w hs;have c2:=fun w=>z1y t w ht;clear hs ht;cases h1:vld s with
 | false =>
  have hr:divF s t=(str [],str [],1):=by unfold divF;rw[h1];rfl
  rw[hr];unfold vld at h1;rw[h1] at c1;clear hr h1 c2;have C1:=qh c1;clear c1
  go_enter func143,ntmps143
  go_wp2_with fail
  refine(C1.out _).mono ?_;rintro e w' ⟨rfl,rfl⟩;go_wp2
  go_ret3
  exact⟨rfl,Below.refl _ _⟩
 | true =>
  cases h2:vld t with
  | false =>
   have hr:divF s t=(str [],str [],1):=by unfold divF;rw[h1,h2];rfl
   rw[hr];unfold vld at h1 h2;rw[h1] at c1;rw[h2] at c2;clear hr h1 h2;have C1:=qh c1;clear c1;have C2:=qh c2;clear c2
   go_enter func143,ntmps143
   go_wp2_with fail
   refine(C1.out _).mono ?_;rintro e w' ⟨rfl,rfl⟩
   go_wp2_with fail
   refine(C2.out _).mono ?_;rintro e w' ⟨rfl,rfl⟩;go_wp2
   go_ret3
   exact⟨rfl,Below.refl _ _⟩
  | true =>
   rw[show z0w (bts s)=true from h1] at c1;rw[show z0w (bts t)=true from h2] at c2;have C1:=qh c1;clear c1;have C2:=qh c2;clear c2;have H1:=qh h1;clear h1;have H2:=qh h2;clear h2;have d2:=fun w=>z2u t w (by have:=z2d H2.out;omega) (z0m H2.out).2.2.2;have D2:=qh d2;clear d2;have o8:=(y5u H2.out);have g7:=qh o8;clear o8;have o6:(dec (val t)).length<=1000:=y2f H2.out;have n9:=qh o6;clear o6;have o7:(s.size:Int)<=1000:=by have:=(z2d H1.out).2;omega
   have p9:(1:Int)<=(s.size:Int):=by have:=(z2d H1.out).1;omega
   by_cases hz:val t=0
   ·have hr:divF s t=(str [],str [],4):=by unfold divF;rw[H1.out,H2.out,if_pos hz];rfl
    rw[hr];clear hr;have n3:=v2e H2.out hz;clear hz
    go_enter func143,ntmps143
    go_wp2_with fail
    refine(C1.out _).mono ?_;rintro e w' ⟨rfl,rfl⟩
    go_wp2_with fail
    refine(C2.out _).mono ?_;rintro e w' ⟨rfl,rfl⟩
    go_wp2_with fail
    go_ret3
    exact⟨rfl,Below.refl _ _⟩
   have hr:divF s t=(str (dec (val s / val t)),str (dec (val s % val t)),0):=by unfold divF;rw[H1.out,H2.out,if_neg hz];rfl
   rw[hr];clear hr;have n3:(t.toList==[48])=false:=beq_eq_false_iff_ne.2 (y4p hz);have HZ:=qh hz;clear hz;obtain⟨i0,hi,n7,h5,h7⟩:=info_parts v0b
   go_enter func143,ntmps143
   go_wp2_with fail
   refine(C1.out _).mono ?_;rintro e w' ⟨rfl,rfl⟩
   go_wp2_with fail
   refine(C2.out _).mono ?_;rintro e w' ⟨rfl,rfl⟩
   go_wp2_with fail
   clear n3
   go_loopw [7,8,9] (fun v r i wr=>∃ (k rn:Nat) (C:List UInt8),k<=s.size/\i=.int .i64 (k:Int)/\r=.string (str (dec rn))/\DivI (bts s) (val t) C rn k/\Own wr w.heap.size 5 .u8 v (C.map (·.toNat))/\Below w.heap.size w wr) (fun _ _ i _=>s.size-(intOf i).toNat)
   case atStart=>exact⟨0,0,[],Nat.zero_le _,rfl,by rw[z1m (by omega)];rfl,DivI.start _ HZ.out,Own.nil _ _ _ _,Below.refl _ _⟩
   obtain⟨k,rn,C,hk,rfl,rfl,e9,d1,hb⟩:=hrel;have i3:(C.map (·.toNat)).length=k:=by rw[List.length_map];exact e9.len
   have l:=qh e9;clear e9;obtain⟨ad,d5,rfl⟩:=d1.shape;rw[i3] at d1 ⊢;have HO:=qh d1;clear d1;have HB:=qh hb;clear hb;have r3:=HB.out.size;have D:=qh i3;clear i3;obtain⟨wo,rfl⟩:∃ wo:World,wo=wr:=⟨_,rfl⟩;by_cases g9:k<s.size
   ·have i9:dgt s[k]=true:=by
     have:=y9g (z0m H1.out).2.2.2 k (by rw[z0j];exact g9);rw[x3x s k g9] at this;simp only[dgt];simp;exact this
    have m4:=u1x s k g9;have j2:=z7r s k g9;obtain⟨c,E⟩:=exq (s[k]);rw[<- E] at i9 m4 j2;have d8:=qh i9;clear i9;have l0:=qh m4;clear m4;have o2:=qh j2;clear j2;clear E;obtain⟨m0,l7⟩:∃ m0,m0=10*rn+(c.toNat-48):=⟨_,rfl⟩;have n6:(dec m0).length<=1001:=by
     have:=d8.out;simp only[dgt,Bool.and_eq_true,decide_eq_true_eq] at this;rw[l7];exact v6v n9.out l.out.lt (by omega)
    have n5:=qh n6;clear n6;have d3:=qh l7;clear l7;by_cases d4:rn=0
    ·have m5:(str (dec rn)).toList=[48]:=by rw[d4,Lib.toList_data,z1m (by omega)];rfl
     have a3:s.extract k (k+1)=str (dec m0):=by rw[l0.out,d3.out,d4];exact u1f d8.out
     have g0:=qh a3;clear a3 d4
     go_wp2_with fail
     rw[g0.out];clear m5
     go_loopw [8,10] (fun r d wq=>∃ (m j:Nat),r=.string (str (dec m))/\d=.int .u8 (48+(j:Int))/\m+j*val t=m0/\Below w.heap.size w wq/\Below wo.heap.size wo wq) (fun r _ _=>strN r)
     case atStart=>exact⟨m0,0,rfl,by go_num,by omega,HB.out,Below.refl _ _⟩
     obtain⟨m,j,rfl,rfl,f5,g3,Z⟩:=hrel;have O:=qh f5;clear f5;have HQ:=qh g3;clear g3;have b6:=qh Z;clear Z;have b1:=HQ.out.size;have I:=b6.out.size;have l6:(dec m).length<=1001:=z6r (by have:=O.out;omega) n5.out;have f1:c.toNat-48<10:=by have:=d8.out;simp only[dgt,Bool.and_eq_true,decide_eq_true_eq] at this;omega
     have b0:=DivI.j_lt l.out.lt f1 (O.out.trans d3.out);clear f1;have p6:(j:Int)<=9:=by omega
     have HJ:=qh b0;clear b0;have E:=z6v m (val t) wr (by omega);rw[g7.out] at E;unfold CmpEnd at E;by_cases h:m<val t
     ·rw[z4k h] at E;have HC:=qh E;clear E;have d7:=qh h;clear h
      go_wp2_with fail
      refine HC.out.mono ?_;rintro e w3 ⟨rfl,u⟩;have p:=HQ.out.trans (u.mono b1);have o:=b6.out.trans (u.mono I);have c7:=HO.out.kept o (Nat.le_refl _);have U:w3.ownsRow w.heap.size 5 1 (.slice ad k d5) k (vals .u8 (C.map (·.toNat))):=by have:=c7.raw;rwa [D.out] at this
      have f7:=qh U;clear U;have j9:=qh c7;clear c7;have L:=qh p;clear p o u;have g4:=L.out.size;have e6:(48+(j:Int))=((48+j:Nat):Int):=by omega
      have i6:=qh e6;clear e6;have f9:(C++[byteOf j]).map (·.toNat)=C.map (·.toNat)++[48+j]:=by rw[List.map_append];simp[byteOf_toNat HJ.out]
      have i7:=qh f9;clear f9
      go_wp2_with (at_builtin;refine wpList_append_own _ rfl (.tmp 54) (.tmp 56) 191 rfl w.heap.size 5 i0 (.int .u8 0) 1 1 underlying191 hi n7 h5 h7 rfl (by decide) _ _ _ rfl (World.ownsRow.alloc f7.out _) ⟨w3.heap.size,0,none⟩ 1 1 [.int .u8 (48+(j:Int))] rfl rfl (cell_one_new _ _ _) (one_cell _ _) (by unfold maxLen;omega) (by omega) (by simp;omega) ?_;intro v' w1 z A _)
      rw[i6.out] at z;obtain⟨ho,hb⟩:=j9.out.appended L.out g4 (by rw[D.out];exact z) A;clear z A;rw[<- i7.out] at ho;have l5:=qh ho;clear ho;have i5:=qh hb;clear hb
      try go_wp2_with fail
      go_roundw
      case rel=>exact⟨k+1,m,C++[byteOf j],by omega,by go_num,rfl,l.out.step o2.out d7.out HJ.out (O.out.trans d3.out),l5.out,i5.out⟩
      simp[intOf];omega
     have j4:(0:Int)<=cmpN m (val t):=by unfold cmpN;rw[if_neg h];split<;>decide
     obtain⟨cc,e0⟩:=exq (cmpN m (val t));rw[<- e0] at j4 E;clear e0;have HC:=qh E;clear E;have f4:val t<=m:=Nat.le_of_not_lt h;have Q:=qh f4;clear f4 h;have R:(digL (bts t)).length<=(digL (dec m)).length:=by
      rw[z2j,z2j,z0j,<- g7.out,z0s];exact y7d Q.out
     have H:dval (digL (dec m))=m:=by rw[(z3h (z3b m)).2,z4r]
     have N:dval (digL (bts t))=val t:=(z3h (z0m H2.out).2.2.2).2;have F:=(z3h (z3b m)).1;have K:=(z3h (z0m H2.out).2.2.2).1;have j8:(digL (dec m)).length<=1001:=by rw[z2j];exact l6
     have D1:=qh (z2u (str (dec m)));obtain⟨xs,b7⟩:=exq (digL (dec m));obtain⟨ys,b8⟩:=exq (digL (bts t));rw[<- b7] at R H F j8;rw[<- b8] at R N K;have XS:=qh b7;clear b7;have YS:=qh b8;clear b8;have j3:=qh R;clear R;have f2:=qh H;clear H;have e1:=qh N;clear N;have j0:=qh F;clear F;have k1:=qh K;clear K
     go_wp2_with fail
     refine HC.out.mono ?_;rintro e w3 ⟨rfl,u⟩;have p:=HQ.out.trans (u.mono b1);have o:=b6.out.trans (u.mono I);have L:=qh p;have e3:=qh o;clear p o u;have k3:=L.out.size;have j7:=e3.out.size
     go_wp2_with fail
     have q4:=D1.out w3 (by rw[z0s];omega) (by rw[z1f];exact z3b m);rw[z1f,<- XS.out] at q4;refine q4.mono ?_;clear q4;rintro e w4 ⟨v4,rfl,b3,c8⟩;obtain⟨a4,c4,rfl⟩:=b3.shape;have j1:=qh b3;clear b3;have Y:=L.out.trans (c8.mono k3);have W:=e3.out.trans (c8.mono j7);have g2:=qh Y;have g5:=qh W;clear Y W c8;have l8:=g2.out.size;have k2:=g5.out.size
     go_wp2_with fail
     have q5:=D2.out w4;rw[<- YS.out] at q5;refine q5.mono ?_;clear q5;rintro e w5 ⟨v5,rfl,b5,S⟩;obtain⟨a5,c5,rfl⟩:=b5.shape;have i4:=qh b5;clear b5;have d9:=j1.out.sl.below S (Nat.le_refl _);have k6:=qh d9;clear d9;have a8:=g2.out.trans (S.mono l8);have T:=g5.out.trans (S.mono k2);have g1:=qh a8;have d6:=qh T;clear a8 T S;have m8:=g1.out.size;have i2:=d6.out.size
     go_wp2_with fail
     refine(y5m _ _ xs ys w5 k6.out i4.out.sl j0.out k1.out j3.out (by rw[f2.out,e1.out];exact Q.out) (by omega)).mono ?_;rintro e w6 ⟨ls,J,X,e8,v6,rfl,b9,c9⟩;obtain⟨a6,c6,rfl⟩:=b9.shape;rw[f2.out,e1.out] at J;have k4:=qh J;clear J;have j5:=qh X;clear X;have n0:ls.length<=1001:=by omega
     clear e8;have k0:=qh b9;clear b9;have a9:=g1.out.trans (c9.mono m8);have b2:=d6.out.trans (c9.mono i2);have e7:=qh a9;have e5:=qh b2;clear a9 b2 c9;have j6:=e7.out.size;have k5:=e5.out.size
     go_wp2_with fail
     have q7:=z9d _ ls w6 k0.out.sl j5.out (by omega);rw[k4.out] at q7;refine q7.mono ?_;clear q7;rintro e w7 ⟨rfl,b4⟩;have a2:=e7.out.trans (b4.mono j6);have a1:=e5.out.trans (b4.mono k5);have m7:=qh a2;have k7:=qh a1;clear a2 a1 b4
     go_wp2_with fail
     go_roundw
     case rel=>exact⟨m-val t,j+1,rfl,by go_num,by rw[Nat.add_mul,Nat.one_mul];have:=O.out;have:=Q.out;omega,m7.out,k7.out⟩
     rw[y4e,y4e];have:=Q.out;have:=HZ.out;omega
    have m5:((str (dec rn)).toList==[48])=false:=beq_eq_false_iff_ne.2 (y4p (by rw[z1g];exact d4));have a3:str (dec rn)++s.extract k (k+1)=str (dec m0):=by rw[l0.out,d3.out];exact u4j d8.out d4
    have g0:=qh a3;clear a3 d4;have r2:((str (dec rn)).size:Int)<=8388608:=by rw[z0s];have:=z6r (Nat.le_of_lt l.out.lt) n9.out;omega
    have r5:((s.extract k (k+1)).size:Int)<=8388608:=by rw[l0.out,z0s];simp
    go_wp2_with fail
    rw[g0.out];clear m5
    go_loopw [8,10] (fun r d wq=>∃ (m j:Nat),r=.string (str (dec m))/\d=.int .u8 (48+(j:Int))/\m+j*val t=m0/\Below w.heap.size w wq/\Below wo.heap.size wo wq) (fun r _ _=>strN r)
    case atStart=>exact⟨m0,0,rfl,by go_num,by omega,HB.out,Below.refl _ _⟩
    obtain⟨m,j,rfl,rfl,f5,g3,Z⟩:=hrel;have O:=qh f5;clear f5;have HQ:=qh g3;clear g3;have b6:=qh Z;clear Z;have b1:=HQ.out.size;have I:=b6.out.size;have l6:(dec m).length<=1001:=z6r (by have:=O.out;omega) n5.out;have f1:c.toNat-48<10:=by have:=d8.out;simp only[dgt,Bool.and_eq_true,decide_eq_true_eq] at this;omega
    have b0:=DivI.j_lt l.out.lt f1 (O.out.trans d3.out);clear f1;have p6:(j:Int)<=9:=by omega
    have HJ:=qh b0;clear b0;have E:=z6v m (val t) wr (by omega);rw[g7.out] at E;unfold CmpEnd at E;by_cases h:m<val t
    ·rw[z4k h] at E;have HC:=qh E;clear E;have d7:=qh h;clear h
     go_wp2_with fail
     refine HC.out.mono ?_;rintro e w3 ⟨rfl,u⟩;have p:=HQ.out.trans (u.mono b1);have o:=b6.out.trans (u.mono I);have c7:=HO.out.kept o (Nat.le_refl _);have U:w3.ownsRow w.heap.size 5 1 (.slice ad k d5) k (vals .u8 (C.map (·.toNat))):=by have:=c7.raw;rwa [D.out] at this
     have f7:=qh U;clear U;have j9:=qh c7;clear c7;have L:=qh p;clear p o u;have g4:=L.out.size;have e6:(48+(j:Int))=((48+j:Nat):Int):=by omega
     have i6:=qh e6;clear e6;have f9:(C++[byteOf j]).map (·.toNat)=C.map (·.toNat)++[48+j]:=by rw[List.map_append];simp[byteOf_toNat HJ.out]
     have i7:=qh f9;clear f9
     go_wp2_with (at_builtin;refine wpList_append_own _ rfl (.tmp 54) (.tmp 56) 191 rfl w.heap.size 5 i0 (.int .u8 0) 1 1 underlying191 hi n7 h5 h7 rfl (by decide) _ _ _ rfl (World.ownsRow.alloc f7.out _) ⟨w3.heap.size,0,none⟩ 1 1 [.int .u8 (48+(j:Int))] rfl rfl (cell_one_new _ _ _) (one_cell _ _) (by unfold maxLen;omega) (by omega) (by simp;omega) ?_;intro v' w1 z A _)
     rw[i6.out] at z;obtain⟨ho,hb⟩:=j9.out.appended L.out g4 (by rw[D.out];exact z) A;clear z A;rw[<- i7.out] at ho;have l5:=qh ho;clear ho;have i5:=qh hb;clear hb
     try go_wp2_with fail
     go_roundw
     case rel=>exact⟨k+1,m,C++[byteOf j],by omega,by go_num,rfl,l.out.step o2.out d7.out HJ.out (O.out.trans d3.out),l5.out,i5.out⟩
     simp[intOf];omega
    have j4:(0:Int)<=cmpN m (val t):=by unfold cmpN;rw[if_neg h];split<;>decide
    obtain⟨cc,e0⟩:=exq (cmpN m (val t));rw[<- e0] at j4 E;clear e0;have HC:=qh E;clear E;have f4:val t<=m:=Nat.le_of_not_lt h;have Q:=qh f4;clear f4 h;have R:(digL (bts t)).length<=(digL (dec m)).length:=by
     rw[z2j,z2j,z0j,<- g7.out,z0s];exact y7d Q.out
    have H:dval (digL (dec m))=m:=by rw[(z3h (z3b m)).2,z4r]
    have N:dval (digL (bts t))=val t:=(z3h (z0m H2.out).2.2.2).2;have F:=(z3h (z3b m)).1;have K:=(z3h (z0m H2.out).2.2.2).1;have j8:(digL (dec m)).length<=1001:=by rw[z2j];exact l6
    have D1:=qh (z2u (str (dec m)));obtain⟨xs,b7⟩:=exq (digL (dec m));obtain⟨ys,b8⟩:=exq (digL (bts t));rw[<- b7] at R H F j8;rw[<- b8] at R N K;have XS:=qh b7;clear b7;have YS:=qh b8;clear b8;have j3:=qh R;clear R;have f2:=qh H;clear H;have e1:=qh N;clear N;have j0:=qh F;clear F;have k1:=qh K;clear K
    go_wp2_with fail
    refine HC.out.mono ?_;rintro e w3 ⟨rfl,u⟩;have p:=HQ.out.trans (u.mono b1);have o:=b6.out.trans (u.mono I);have L:=qh p;have e3:=qh o;clear p o u;have k3:=L.out.size;have j7:=e3.out.size
    go_wp2_with fail
    have q4:=D1.out w3 (by rw[z0s];omega) (by rw[z1f];exact z3b m);rw[z1f,<- XS.out] at q4;refine q4.mono ?_;clear q4;rintro e w4 ⟨v4,rfl,b3,c8⟩;obtain⟨a4,c4,rfl⟩:=b3.shape;have j1:=qh b3;clear b3;have Y:=L.out.trans (c8.mono k3);have W:=e3.out.trans (c8.mono j7);have g2:=qh Y;have g5:=qh W;clear Y W c8;have l8:=g2.out.size;have k2:=g5.out.size
    go_wp2_with fail
    have q5:=D2.out w4;rw[<- YS.out] at q5;refine q5.mono ?_;clear q5;rintro e w5 ⟨v5,rfl,b5,S⟩;obtain⟨a5,c5,rfl⟩:=b5.shape;have i4:=qh b5;clear b5;have d9:=j1.out.sl.below S (Nat.le_refl _);have k6:=qh d9;clear d9;have a8:=g2.out.trans (S.mono l8);have T:=g5.out.trans (S.mono k2);have g1:=qh a8;have d6:=qh T;clear a8 T S;have m8:=g1.out.size;have i2:=d6.out.size
    go_wp2_with fail
    refine(y5m _ _ xs ys w5 k6.out i4.out.sl j0.out k1.out j3.out (by rw[f2.out,e1.out];exact Q.out) (by omega)).mono ?_;rintro e w6 ⟨ls,J,X,e8,v6,rfl,b9,c9⟩;obtain⟨a6,c6,rfl⟩:=b9.shape;rw[f2.out,e1.out] at J;have k4:=qh J;clear J;have j5:=qh X;clear X;have n0:ls.length<=1001:=by omega
    clear e8;have k0:=qh b9;clear b9;have a9:=g1.out.trans (c9.mono m8);have b2:=d6.out.trans (c9.mono i2);have e7:=qh a9;have e5:=qh b2;clear a9 b2 c9;have j6:=e7.out.size;have k5:=e5.out.size
    go_wp2_with fail
    have q7:=z9d _ ls w6 k0.out.sl j5.out (by omega);rw[k4.out] at q7;refine q7.mono ?_;clear q7;rintro e w7 ⟨rfl,b4⟩;have a2:=e7.out.trans (b4.mono j6);have a1:=e5.out.trans (b4.mono k5);have m7:=qh a2;have k7:=qh a1;clear a2 a1 b4
    go_wp2_with fail
    go_roundw
    case rel=>exact⟨m-val t,j+1,rfl,by go_num,by rw[Nat.add_mul,Nat.one_mul];have:=O.out;have:=Q.out;omega,m7.out,k7.out⟩
    rw[y4e,y4e];have:=Q.out;have:=HZ.out;omega
   have m9:k=s.size:=by omega
   obtain⟨g,r0,hv,_,_,p7,_⟩:=HO.out.some (by rw[D.out];omega);rw[D.out] at hv p7;simp only[Value.slice.injEq,true_and] at hv;obtain⟨rfl,rfl⟩:=hv;have o4:=l.out.len;have QL:=qh o4;clear o4;have e4:num C*val t+rn=val s:=by
    have:=l.out.val;rw[m9,List.take_of_length_le (by rw[z0j];omega)] at this;exact this
   have h3:rn=val s % val t:=by
    rw[<- e4,Nat.mul_comm,Nat.mul_add_mod,Nat.mod_eq_of_lt l.out.lt]
   have h6:num C=val s / val t:=by
    rw[<- e4,Nat.mul_comm,Nat.mul_add_div (Nat.pos_of_ne_zero HZ.out),Nat.div_eq_of_lt l.out.lt,Nat.add_zero]
   have h4:=qh h3;clear h3;have h8:=qh h6;clear h6 e4;have r4:1<=k:=by omega
   have g8:k<=1000:=by omega
   have d0:=qh g8;clear m9
   go_wp2_with fail
   go_loop [11] (fun i=>∃ j:Nat,i=.int .i64 (j:Int)/\Strip C j) (fun i=>k-(intOf i).toNat)
   case atStart=>exact⟨0,rfl,⟨by rw[QL.out];omega,by rw[List.drop_zero]⟩⟩
   obtain⟨j,rfl,m3⟩:=hrel;have k9:=m3.lt;rw[QL.out] at k9;have q8:j<k:=by omega
   have r1:j<d5:=by omega
   have q9:¬ d5=j:=by omega
   have l9:=qh m3;clear m3;have o9:=HO.out.cell D.out j (by omega);have i8:nth (C.map (·.toNat)) j=(C[j]'(by rw[QL.out];omega)).toNat:=by rw[z5u _ _ (by rw[D.out];omega),List.getElem_map]
   obtain⟨d,hd⟩:=exq (nth (C.map (·.toNat)) j);rw[<- hd] at o9 i8;have o3:=qh i8;clear i8 hd;by_cases f8:j+1<k
   ·have p0:decide ((j:Int)<(k:Int)-1)=true:=decide_eq_true (by omega);have o5:=qh f8;clear f8 k9;by_cases h0:d=48
    ·have hg:((d:Int)==48)=true:=by rw[beq_iff_eq];omega
     have p8:=qh h0;clear h0;have f0:=l9.out.step (by rw[QL.out];exact o5.out) (by rw[<- o3.out];exact p8.out);have l4:=qh f0;clear f0
     go_wp2_with fail
     go_round
     case rel=>exact⟨j+1,by go_num,l4.out⟩
     simp[intOf];omega
    have hg:((d:Int)==48)=false:=by rw[beq_eq_false_iff_ne];omega
    have G:=x1y l9.out l.out.dig (by rw[QL.out];exact d0.out) (.inr (by intro e;apply h0;rw[o3.out,e];rfl));clear h0;rw[h8.out] at G;have B:∀ (i:Nat) (hi:i<(C.drop j).length),wo.cell? ((⟨g,j,none⟩:Addr).add i)=some (.int .u8 (((C.drop j)[i].toNat:Nat):Int)):=fun i hi=>by
     have g6:j+i<k:=by rw[List.length_drop,QL.out] at hi;omega
     have E:=HO.out.cell D.out (j+i) g6;have e:(⟨g,j,none⟩:Addr).add i=⟨g,j+i,none⟩:=by unfold Addr.add;split<;>simp_all
     rw[e,E,z5u _ _ (by rw[D.out];exact g6),List.getElem_map,List.getElem_drop]
    have h9:=run_convert_bytes_back (P:=prog) wo 191 9 5 ⟨g,j,none⟩ (d5-j) (C.drop j) underlying191 underlying5 underlying9 B;have a7:(⟨(C.drop j).toArray⟩:ByteArray)=str (dec (val s / val t)):=by rw[G];rfl
    rw[a7,List.length_drop,QL.out] at h9;clear B a7 G
    go_wp2_with fail
    all_goals (rw[<- h4.out];go_ret3;exact⟨rfl,HB.out⟩)
   have p0:decide ((j:Int)<(k:Int)-1)=false:=decide_eq_false (by omega);have G:=x1y l9.out l.out.dig (by rw[QL.out];exact d0.out) (.inl (by rw[QL.out];omega));clear f8 k9;rw[h8.out] at G;have B:∀ (i:Nat) (hi:i<(C.drop j).length),wo.cell? ((⟨g,j,none⟩:Addr).add i)=some (.int .u8 (((C.drop j)[i].toNat:Nat):Int)):=fun i hi=>by
    have g6:j+i<k:=by rw[List.length_drop,QL.out] at hi;omega
    have E:=HO.out.cell D.out (j+i) g6;have e:(⟨g,j,none⟩:Addr).add i=⟨g,j+i,none⟩:=by unfold Addr.add;split<;>simp_all
    rw[e,E,z5u _ _ (by rw[D.out];exact g6),List.getElem_map,List.getElem_drop]
   have h9:=run_convert_bytes_back (P:=prog) wo 191 9 5 ⟨g,j,none⟩ (d5-j) (C.drop j) underlying191 underlying5 underlying9 B;have a7:(⟨(C.drop j).toArray⟩:ByteArray)=str (dec (val s / val t)):=by rw[G];rfl
   rw[a7,List.length_drop,QL.out] at h9;clear B a7 G
   go_wp2_with fail
   all_goals (rw[<- h4.out];go_ret3;exact⟨rfl,HB.out⟩)
end
section
open Go.RowKit
set_option maxRecDepth 100000 in
theorem v6u (s t:ByteArray) (w:World) (O:s.size<=maxLen) (Q:t.size<=maxLen) :
  Calls prog 137 #[.string s,.string t] w (PairEnd (gcdF s t) w):=by
 have c1:=fun w=>z1y s w O;have c2:=fun w=>z1y t w Q;clear O Q;cases c:vld s with
 | false =>
  have i:gcdF s t=(str [],1):=by unfold gcdF;rw[c];rfl
  rw[i];unfold vld at c;rw[c] at c1;clear i c c2;have r:=qh c1;clear c1
  go_enter func137,ntmps137
  go_wp2_with fail
  refine(r.out _).mono ?_;rintro e C ⟨rfl,rfl⟩;go_wp2;go_ret2;exact⟨rfl,Below.refl _ _⟩
 | true =>
  cases o:vld t with
  | false =>
   have i:gcdF s t=(str [],1):=by unfold gcdF;rw[c,o];rfl
   rw[i];unfold vld at c o;rw[c] at c1;rw[o] at c2;clear i c o;have r:=qh c1;clear c1;have G:=qh c2;clear c2
   go_enter func137,ntmps137
   go_wp2_with fail
   refine(r.out _).mono ?_;rintro e C ⟨rfl,rfl⟩
   go_wp2_with fail
   refine(G.out _).mono ?_;rintro e C ⟨rfl,rfl⟩;go_wp2;go_ret2;exact⟨rfl,Below.refl _ _⟩
  | true =>
   rw[show z0w (bts s)=true from c] at c1;rw[show z0w (bts t)=true from o] at c2;have r:=qh c1;clear c1;have G:=qh c2;clear c2;have L:=qh c;clear c;have I:=qh o;clear o;have i:gcdF s t=(str (dec (Nat.gcd (val s) (val t))),0):=by unfold gcdF;rw[L.out,I.out];rfl
   rw[i];clear i
   go_enter func137,ntmps137
   go_wp2_with fail
   refine(r.out _).mono ?_;rintro e C ⟨rfl,rfl⟩
   go_wp2_with fail
   refine(G.out _).mono ?_;rintro e C ⟨rfl,rfl⟩
   go_wp2_with fail
   go_loopg [0,1] (val t) (fun g T R wr=>∃ p:Nat,T=.string (str (dec p))/\R=.string (str (dec g))/\Nat.gcd p g=Nat.gcd (val s) (val t)/\fits p/\fits g/\Below w.heap.size w wr)
   case atStart=>exact⟨val s,by rw[y5u L.out],by rw[y5u I.out],rfl,y2f L.out,y2f I.out,Below.refl _ _⟩
   obtain⟨p,rfl,rfl,P,u,A,hb⟩:=hrel;have N:=qh P;clear P;have l:=qh u;clear u;have j:=qh A;clear A;have k:=qh hb;clear hb;have K:=k.out.size;by_cases h:gk=0
   ·have J:((str (dec gk)).toList==[48])=true:=by rw[beq_iff_eq,h,Lib.toList_data,z1m (by omega)];rfl
    have S:((str (dec gk)).toList != [48])=false:=by unfold bne;rw[J];rfl
    have e2:(str (dec gk)).toList=[48]:=by rw[h,Lib.toList_data,z1m (by omega)];rfl
    have v:p=Nat.gcd (val s) (val t):=by rw[<- N.out,h,Nat.gcd_zero_right]
    have H:=qh v;clear v h
    go_wp2_with fail
    go_ret2;exact⟨x4u (by rw[H.out]) rfl,k.out⟩
   have J:((str (dec gk)).toList==[48])=false:=beq_eq_false_iff_ne.2 (y4p (by rw[z1g];exact h));have S:((str (dec gk)).toList != [48])=true:=by unfold bne;rw[J];rfl
   have d:=x7a (str (dec p)) (str (dec gk)) wr (z0z l.out) (z0z j.out);unfold TripEnd at d;rw[x3n (z2r l.out) (z2r j.out) (by rw[z1g];exact h),z1g,z1g] at d;have D:=qh d;clear d;have F:=qh h;clear h
   go_wp2_with fail
   refine D.out.mono ?_;rintro e U ⟨rfl,B⟩;have z:=k.out.trans (B.mono K);have E:=qh z;clear z B
   go_wp2_with fail
   go_roundg (p % gk)
   case measure=>exact Nat.mod_lt _ (Nat.pos_of_ne_zero F.out)
   case rel=>exact⟨gk,rfl,rfl,by rw[<- N.out,Nat.gcd_comm gk,<- Nat.gcd_rec,Nat.gcd_comm],j.out,z4t l.out (Nat.mod_le _ _),E.out⟩
end
end Go.Proofs.YtjekapjbigfkbaaGreatDoor
