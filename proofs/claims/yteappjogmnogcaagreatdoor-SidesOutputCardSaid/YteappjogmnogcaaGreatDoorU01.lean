/- Parts of a proof: MB. -/
import Derived.Test.YteappjogmnogcaaGreatDoorU00
namespace Go.Proofs.YteappjogmnogcaaGreatDoor
set_option maxRecDepth 100000
set_option linter.unusedSimpArgs false
set_option linter.unusedVariables false
set_option linter.unusedSectionVars false
set_option maxHeartbeats 16000000
open Go Tryz
section
open Go.RowKit
def Trimmed (xs:List Nat) (k:Nat):Prop:=k<=xs.length/\(∀ j,k<=j->nth xs j=0)/\(k=0\/nth xs (k-1)≠0)
def TrimEnd (a:Option Addr) (cap:Nat) (xs:List Nat) (w:World) (e:Ending) (w':World):Prop:=∃ k,Trimmed xs k/\e=.returned (.slice a k cap)/\w=w'
theorem z6v (a:Option Addr) (cap:Nat) (xs:List Nat) (w:World) (h:Sl w .u64 (.slice a xs.length cap) xs) :
  Calls prog 207 #[.slice a xs.length cap] w (TrimEnd a cap xs w):=by
 rcases h with ⟨g,rfl⟩|⟨b,l,c,g,E,F,D,z⟩
 ·simp only[Value.slice.injEq] at g;obtain⟨rfl,_,rfl⟩:=g
  go_enter func207,ntmps207
  go_wp2
  go_loop [0] (fun v=>v=.slice none 0 0) (fun v=>lenV v)
  case atStart=>exact rfl
  obtain rfl:=hrel;go_wp2;go_ret;exact⟨0,⟨Nat.zero_le _,fun j _=>z1q [] j (Nat.zero_le _),.inl rfl⟩,rfl,rfl⟩
 simp only[Value.slice.injEq,true_and] at g;obtain⟨rfl,rfl⟩:=g;unfold maxLen at D
 go_enter func207,ntmps207
 go_wp2
 go_loop [0] (fun v=>∃ k:Nat,k<=xs.length/\v=.slice (some ⟨b,l,none⟩) k cap/\∀ j,k<=j->nth xs j=0) (fun v=>lenV v)
 case atStart=>exact⟨xs.length,nlr,rfl,fun j s=>z1q xs j s⟩
 obtain⟨k,u,rfl,p⟩:=hrel;have o:=qh p;clear p;by_cases B:k=0
 ·subst B;go_wp2;go_ret;exact⟨0,⟨u,o.out,.inl rfl⟩,rfl,rfl⟩
 obtain⟨m,rfl⟩:∃ m,k=m+1:=⟨k-1,by omega⟩;have C:=z m (by omega);by_cases i:nth xs m=0
 ·have d:=qh i;clear i;rw[d.out] at C;go_wp2
  go_round
  case rel=>exact⟨m,by omega,rfl,fun j s=>by
   by_cases e:j=m
   ·rw[e];exact d.out
   exact o.out j (by omega)⟩
  simp[lenV]
 have d:=qh i;clear i;have A:(((nth xs m:Nat):Int)==0)=false:=by rw[beq_eq_false_iff_ne];have:=d.out;omega
 go_wp2;go_ret;exact⟨m+1,⟨u,o.out,.inr d.out⟩,rfl,rfl⟩
end
section
theorem u2r:∃ b:Nat,b=1000000000:=⟨_,rfl⟩
noncomputable def BB:Nat:=Classical.choose u2r
theorem z0s:BB=1000000000:=Classical.choose_spec u2r
theorem z1w:0<BB:=by rw[z0s];omega
theorem y5p:1<BB:=by rw[z0s];omega
noncomputable def bval:List Nat->Nat | []=>0|x::xs=>x+BB*bval xs
def Small (xs:List Nat):Prop:=∀ i,nth xs i<BB
theorem z7x:Small []:=fun i=>by rw[z1q _ _ (Nat.zero_le _)];exact z1w
theorem z6x (x:Nat) (xs:List Nat):nth (x::xs) 0=x:=rfl
theorem z5b (x:Nat) (xs:List Nat) (i:Nat):nth (x::xs) (i+1)=nth xs i:=rfl
theorem z3v (xs c:List Nat) (i:Nat) (h:i<xs.length):nth (xs++c) i=nth xs i:=by simp[nth,List.getD_eq_getElem?_getD,List.getElem?_append_left h]
theorem z3g (xs c:List Nat) (i:Nat) (h:xs.length<=i):nth (xs++c) i=nth c (i-xs.length):=by simp[nth,List.getD_eq_getElem?_getD,List.getElem?_append_right h]
theorem y1j {x:Nat} {xs:List Nat}:Small (x::xs)↔x<BB/\Small xs :=
 ⟨fun h=>⟨h 0,fun i=>h (i+1)⟩,fun ⟨c,d⟩ i=>by cases i with
  | zero=>exact c
  | succ i=>exact d i⟩
theorem z7z {x:Nat} {xs:List Nat} (h:Small xs) (c:x<BB):Small (xs++[x]):=fun i=>by
 by_cases d:i<xs.length
 ·rw[z3v _ _ _ d];exact h i
 rw[z3g _ _ _ (by omega)];cases i-xs.length with
 | zero=>exact c
 | succ j=>exact z1w
theorem z4h {xs:List Nat} (h:Small xs) (k:Nat):Small (xs.take k):=fun i=>by
 by_cases c:i<k
 ·rw[z8b _ _ _ c];exact h i
 rw[z1q _ _ (by rw[List.length_take];omega)];exact z1w
theorem z4i (xs c:List Nat):bval (xs++c)=bval xs+BB ^ xs.length*bval c:=by
 induction xs with
 | nil=>simp[bval]
 | cons x xs ih=>simp only[List.cons_append,bval,ih,List.length_cons,Nat.pow_succ];rw[Nat.mul_add,Nat.mul_comm (BB ^ xs.length) BB,Nat.mul_assoc];omega
theorem z6n (xs:List Nat) (x:Nat):bval (xs++[x])=bval xs+BB ^ xs.length*x:=by rw[z4i];simp[bval]
theorem z0k (xs:List Nat) (k:Nat):bval (xs.take (k+1))=bval (xs.take k)+BB ^ k*nth xs k:=by
 by_cases h:k<xs.length
 ·rw[y5t xs k h,z6n,List.length_take,Nat.min_eq_left (by omega)]
 rw[List.take_of_length_le (by omega),List.take_of_length_le (by omega),z1q xs k (by omega)];simp
theorem z3w {xs:List Nat} (h:Small xs):bval xs<BB ^ xs.length:=by
 induction xs with
 | nil=>simp[bval]
 | cons x xs ih =>
  obtain⟨g,c⟩:=y1j.1 h;have:=ih c;simp only[bval,List.length_cons,Nat.pow_succ];have d:BB*(bval xs+1)<=BB*BB ^ xs.length:=Nat.mul_le_mul_left _ this;rw[Nat.mul_comm (BB ^ xs.length)];rw[Nat.mul_add] at d;omega
theorem x1c {xs:List Nat} (h:∀ i,nth xs i=0):bval xs=0:=by
 induction xs with
 | nil=>rfl
 | cons x xs ih=>simp only[bval];rw[ih (fun i=>h (i+1)),show x=0 from h 0];simp
noncomputable def toBf:Nat->Nat->List Nat
 | 0,_=>[]
 | f+1,n=>if n=0 then [] else n % BB::toBf f (n / BB)
noncomputable def toB (n:Nat):List Nat:=toBf n n
theorem u1r:∀ (f g n:Nat),n<=f->n<=g->toBf f n=toBf g n:=by
 intro f
 induction f with
 | zero =>
      intro g n h _;have:n=0:=by omega
      subst this;cases g<;>simp[toBf]
 | succ f ih =>
  intro g n d i;by_cases c:n=0
  ·subst c;cases g<;>simp[toBf]
  cases g with
  | zero=>omega
  | succ g =>
   simp only[toBf,if_neg c];have:n / BB<n:=Nat.div_lt_self (by omega) y5p;rw[ih g (n / BB) (by omega) (by omega)]
theorem y2p:toB 0=[]:=rfl
theorem z9f {n:Nat} (h:n≠0):toB n=n % BB::toB (n / BB):=by
 unfold toB;cases n with
 | zero=>exact absurd rfl h
 | succ n =>
  have:(n+1) / BB<n+1:=Nat.div_lt_self (by omega) y5p;simp only[toBf,if_neg h];rw[u1r n ((n+1) / BB) ((n+1) / BB) (by omega) (by omega)]
theorem z0y (n:Nat):bval (toB n)=n:=by
 induction n using Nat.strongRecOn with
 | ind n ih =>
  by_cases h:n=0
  ·subst h;rfl
  rw[z9f h];simp only[bval];rw[ih (n / BB) (Nat.div_lt_self (by omega) y5p)];exact Nat.mod_add_div n BB
theorem z0x (n:Nat):Small (toB n):=by
 induction n using Nat.strongRecOn with
 | ind n ih =>
  by_cases h:n=0
  ·subst h;exact z7x
  rw[z9f h];exact y1j.2 ⟨Nat.mod_lt _ z1w,ih (n / BB) (Nat.div_lt_self (by omega) y5p)⟩
theorem v4u:∀ {xs:List Nat},Small xs->(xs=[]\/nth xs (xs.length-1)≠0)->toB (bval xs)=xs:=by
 intro xs
 induction xs with
 | nil=>intro _ _;rfl
 | cons x xs ih =>
  intro o p;obtain⟨g,k⟩:=y1j.1 o;have i:nth (x::xs) xs.length≠0:=by
   rcases p with h|h
   ·simp at h
   simpa using h
  have hi:xs=[]\/nth xs (xs.length-1)≠0:=by
   cases xs with
   | nil=>exact .inl rfl
   | cons y ys=>exact .inr (by simpa [z5b] using i)
  have c:=ih k hi;have d:bval (x::xs)≠0:=by
   cases xs with
   | nil =>
        simp only[bval];have:x≠0:=i;omega
   | cons y ys =>
    intro e;simp only[bval] at e;have l:bval (y::ys)=0:=by
     simp only[bval];have:=z1w
     rcases Nat.eq_zero_or_pos (y+BB*bval ys) with h|h
     ·exact h
     have:0<BB*(y+BB*bval ys):=Nat.mul_pos z1w h;omega
    rw[l] at c;simp[y2p] at c
  rw[z9f d];have m:bval (x::xs) % BB=x:=by simp only[bval];rw[Nat.add_mul_mod_self_left,Nat.mod_eq_of_lt g]
  have j:bval (x::xs) / BB=bval xs:=by simp only[bval];rw[Nat.add_mul_div_left _ _ z1w,Nat.div_eq_of_lt g,Nat.zero_add]
  rw[m,j,c]
theorem y7t {n:Nat} (h:n≠0):nth (toB n) ((toB n).length-1)≠0:=by
 induction n using Nat.strongRecOn with
 | ind n ih =>
  rw[z9f h];by_cases c:n / BB=0
  ·rw[c,y2p];show n % BB≠0;have:=Nat.mod_add_div n BB;rw[c] at this;omega
  have:=ih (n / BB) (Nat.div_lt_self (by omega) y5p) c;have d:1<=(toB (n / BB)).length:=by rw[z9f c];simp
  rw[List.length_cons,show (toB (n / BB)).length+1-1=((toB (n / BB)).length-1)+1 by omega,z5b];exact this
theorem y2b {n:Nat} (h:n≠0):1<=(toB n).length:=by rw[z9f h];simp
theorem z6m {n k:Nat} (h:n<BB ^ k):(toB n).length<=k:=by
 induction k generalizing n with
 | zero =>
      have:n=0:=by simp at h;exact h
      subst this;simp[y2p]
 | succ k ih =>
  by_cases c:n=0
  ·subst c;simp[y2p]
  rw[z9f c];have:n / BB<BB ^ k:=Nat.div_lt_of_lt_mul (by rw[Nat.pow_succ,Nat.mul_comm] at h;exact h);have:=ih this;simp;omega
theorem x5m {n:Nat} (h:n≠0):BB ^ ((toB n).length-1)<=n:=by
 have d:=z0y n;have g:=y7t h;have i:=y2b h;have c:=z0k (toB n) ((toB n).length-1);rw[show (toB n).length-1+1=(toB n).length by omega,List.take_length,d] at c;have:BB ^ ((toB n).length-1)*1<=BB ^ ((toB n).length-1)*nth (toB n) ((toB n).length-1):=Nat.mul_le_mul_left _ (by omega);omega
theorem z2f {m n:Nat} (h:m<=n):(toB m).length<=(toB n).length :=
 z6m (Nat.lt_of_le_of_lt h (by have:=z3w (z0x n);rw[z0y] at this;exact this))
theorem y2d {xs:List Nat} {k:Nat} (c:∀ j,k<=j->nth xs j=0):bval (xs.take k)=bval xs:=by
 have h:=z4i (xs.take k) (xs.drop k);rw[List.take_append_drop] at h;rw[h,x1c (xs:=xs.drop k) (fun i=>by
  have:nth (xs.drop k) i=nth xs (k+i):=by simp[nth,List.getD_eq_getElem?_getD]
  rw[this];exact c _ (by omega))]
 simp
theorem z4g {xs:List Nat} {k:Nat} (h:Small xs) (d:k<=xs.length) (g:∀ j,k<=j->nth xs j=0) (c:k=0\/nth xs (k-1)≠0):xs.take k=toB (bval xs):=by
 rw[<- y2d g]
 symm
 apply v4u (z4h h k)
 rcases c with rfl|c
 ·left;simp
 by_cases i:k=0
 ·subst i;left;simp
 right;rw[List.length_take,Nat.min_eq_left d,z8b _ _ _ (by omega)];exact c
end
section
open Go.RowKit
def seg (t:ByteArray) (c i:Nat):Nat:=num (((bts t).take i).drop c)
theorem v4c (t:ByteArray) (c:Nat):seg t c c=0:=by unfold seg;rw[List.drop_of_length_le (by rw[List.length_take];omega)];rfl
theorem v5b (t:ByteArray) (c i:Nat) (d:c<=i) (h:i<t.size):seg t c (i+1)=10*seg t c i+(t[i].toNat-48):=by
 unfold seg;rw[x0x t i h,List.drop_append_of_le_length (by rw[List.length_take,z1m];omega),z6b]
theorem x4f {l:List UInt8} (h:dgts l=true) (a b:Nat):dgts ((l.take a).drop b)=true:=by
 unfold dgts at *;rw[List.all_eq_true] at *;exact fun x c=>h x (List.mem_of_mem_take (List.mem_of_mem_drop c))
theorem seg_lt (t:ByteArray) (c i:Nat) (h:dgts (bts t)=true) (hi:i<=c+9):seg t c i<1000000000:=by
 have g:=v7h _ (x4f h i c);have:(((bts t).take i).drop c).length<=9:=by rw[List.length_drop,List.length_take];omega
 have d:10 ^ (((bts t).take i).drop c).length<=10 ^ 9:=Nat.pow_le_pow_right (by omega) this;unfold seg;omega
theorem x5k (l r:List UInt8):num (l++r)=num l*10 ^ r.length+num r:=by
 suffices h:∀ (k:Nat) (r:List UInt8),r.length=k->num (l++r)=num l*10 ^ r.length+num r from h _ r rfl
 intro k
 induction k with
 | zero =>
      intro r h;have:r=[]:=List.length_eq_zero_iff.1 h;subst this;simp[num]
 | succ k ih =>
  intro r h;obtain⟨m,c,rfl⟩:=y4h r (by intro e;subst e;simp at h);simp at h;rw[<- List.append_assoc,z6b,z6b,ih m h,List.length_append,List.length_singleton,Nat.pow_succ,Nat.mul_add,<- Nat.mul_assoc,<- Nat.mul_assoc,Nat.mul_comm (num l*10 ^ m.length) 10,<- Nat.mul_assoc];omega
theorem v8f (t:ByteArray) (c:Nat):num (bts t)=num ((bts t).take c)*10 ^ ((bts t).length-c)+seg t c t.size:=by
 have h:=x5k ((bts t).take c) ((bts t).drop c);rw[List.take_append_drop,List.length_drop] at h;have e:seg t c t.size=num ((bts t).drop c):=by unfold seg;rw[List.take_of_length_le (by rw[z1m];omega)]
 rw[e];exact h
theorem pow9 (k:Nat):10 ^ (9*k)=BB ^ k:=by rw[Nat.pow_mul,z0s]
structure BlkInv (s t:ByteArray) (l:List Nat):Prop where
 small:Small l
 dig:dgts (bts t)=true
 val:num (bts s)=num (bts t)*BB ^ l.length+bval l
 len:t.size<=1000/\(t.size=0\/t.size+9*l.length=s.size)
theorem BlkInv.step {s t:ByteArray} {l:List Nat} (h:BlkInv s t l) (c:Nat) (g:c=t.size-9) (i:0<t.size):BlkInv s (t.extract 0 c) (l++[seg t c t.size]):=by
 have hb:bts (t.extract 0 c)=(bts t).take c:=by
  have:=Lib.extract_data t 0 c;unfold bts;rw[this];simp
 have d:(t.extract 0 c).size=c:=by rw[<- z1m,hb,List.length_take,z1m];omega
 refine⟨z7z h.small (by rw[z0s];exact seg_lt t c t.size h.dig (by omega)),?_,?_,?_⟩
 ·rw[hb];have:=x4f h.dig c 0;simpa using this
 ·rw[h.val,z6n,hb,v8f t c,List.length_append,List.length_singleton];by_cases j:9<=t.size
  ·rw[show (bts t).length-c=9*1 by rw[z1m];omega,pow9,Nat.pow_succ BB l.length,Nat.pow_one,Nat.add_mul,Nat.mul_assoc,Nat.mul_comm BB (BB ^ l.length),Nat.mul_comm (seg t c t.size)];omega
  have:c=0:=by omega
  subst this;simp only[List.take_zero,show num []=0 from rfl,Nat.zero_mul,Nat.zero_add];rw[Nat.mul_comm];omega
 rw[d,List.length_append,List.length_singleton];have:=h.len;omega
theorem BlkInv.done {s t:ByteArray} {l:List Nat} (h:BlkInv s t l) (c:t.size=0):bval l=num (bts s):=by
 have:bts t=[]:=List.length_eq_zero_iff.1 (by rw[z1m];exact c);rw[h.val,this];simp[num]
theorem z9t:(prog.info? 179).map (fun i=>(i.zero,i.size,i.bytes))=some (some (.int .u64 0),1,8):=by kernel_rfl
def BlocksEnd (n:Nat) (w:World) (e:Ending) (w':World):Prop:=∃ v,e=.returned v/\Own w' w.heap.size 179 .u64 v (toB n)/\Below w.heap.size w w'
theorem x6a (s:ByteArray) (w:World) (R:s.size<=1000) (z:dgts (bts s)=true) :
  Calls prog 205 #[.string s] w (BlocksEnd (num (bts s)) w):=by
 obtain⟨i0,hi,I,G,H⟩:=info_parts z9t;have E:BlkInv s s []:=⟨z7x,z,by simp[bval],R,.inr (by simp)⟩;clear z R;have S:=qh E;clear E
 go_enter func205,ntmps205
 go_wp2
 go_loopw [0,3] (fun a v wr=>∃ t l,a=.string t/\BlkInv s t l/\Own wr w.heap.size 179 .u64 v l/\Below w.heap.size w wr)
  (fun a _ _=>strV a)
 case atStart=>exact⟨s,[],rfl,S.out,Own.nil _ _ _ _,blr⟩
 obtain⟨t,l,rfl,d,h,hb⟩:=hrel;obtain⟨Z,P,rfl⟩:=h.shape;have m:=qh d.dig;have Y:=d.len.1;have A:=qh d;clear d;have F:=qh h;clear h;have L:=qh hb;clear hb;by_cases E:t.size=0
 ·go_wp2_with fail
  refine(z6v Z P l wr F.out.sl).mono ?_;rintro e w' ⟨k,U,rfl,rfl⟩;have D:=qh U;clear U;go_wp2;go_ret;refine⟨_,rfl,?_,L.out⟩;rw[<- A.out.done E,<- z4g A.out.small D.out.1 D.out.2.1 D.out.2.2];exact F.out.take D.out.1
 have X:0<t.size:=by omega
 obtain⟨c,T⟩:=exq (t.size-9);have p:=qh T;clear T
 rcases Nat.lt_or_ge t.size 10 with h9|h9
 all_goals
  go_wp2
  go_loop [5,6] (fun n i=>∃ k:Nat,c<=k/\k<=t.size/\i=.int .i64 k/\n=.int .u64 (seg t c k:Nat)) (fun _ i=>t.size-(intOf i).toNat)
  case atStart=>exact⟨c,nlr,by have:=p.out;omega,by have:=p.out;go_num,by rw[v4c];rfl⟩
  obtain⟨k,Q,a2,rfl,rfl⟩:=hrel;by_cases o:k<t.size
  ·have hn:=seg_lt t c k m.out (by have:=p.out;omega);have z:=v3b m.out k (by rw[z1m];exact o);rw[u0e t k o] at z;have a3:(48:Int)<=(t[k].toNat:Int):=by omega
   have a4:(t[k].toNat:Int)<=57:=by omega
   clear z;go_wp2
   go_round
   case rel=>exact⟨k+1,by omega,by omega,by go_num,by rw[v5b t c k Q o];go_num⟩
   simp[intOf];omega
  have a1:l.length<=1000:=by have:=A.out.len.2;have:=A.out.step c p.out X;have:=S.out.len.1;omega
  have N:=L.out.size
  go_wp2_with (at_builtin;refine wpList_append_own _ rfl (.tmp 29) (.tmp 31) 199 rfl w.heap.size 179 i0 (.int .u64 0) 1 8 underlying199 hi I G H rfl (by decide) _ _ _ rfl (World.ownsRow.alloc F.out.raw _) ⟨wr.heap.size,0,none⟩ 1 1 [.int .u64 (seg t c k:Nat)] rfl rfl (cell_one_new _ _ _) (one_cell _ _) (by unfold maxLen;omega) (by omega) (by simp;omega) ?_;intro v' w1 j g _)
  obtain⟨W,hb⟩:=F.out.appended L.out N j g;clear j g;have B:=qh W;clear W;have J:=qh hb;clear hb;have C:k=t.size:=by omega
  have K:=qh C;clear C;go_wp2;go_roundw
  case rel =>
   have u:=A.out.step c p.out X;rw[K.out] at B;refine⟨_,_,rfl,?_,B.out,J.out⟩;have O:=p.out
   first
    | (rw[<- O];exact u)
    | (
      have e:c=0:=by omega
      have e2:t.extract 0 c=ByteArray.empty:=by rw[e];simp
      rw[<- e2];exact u)
  simp only[x3a,ByteArray.size_extract,ByteArray.size_empty];omega
end
section
open Go.RowKit
def z0m (F:Nat->Nat->Nat->Nat × Nat) (xs ys:List Nat):Nat->List Nat × Nat
 | 0=>([],0)
 | k+1=>((z0m F xs ys k).1++[(F (nth xs k) (nth ys k) (z0m F xs ys k).2).1],(F (nth xs k) (nth ys k) (z0m F xs ys k).2).2)
theorem z1a (F:Nat->Nat->Nat->Nat × Nat) (xs c:List Nat) (k:Nat):(z0m F xs c k).1.length=k:=by
 induction k with
 | zero=>rfl
 | succ k ih=>simp[z0m,ih]
def StepOk (F:Nat->Nat->Nat->Nat × Nat) (M:Nat):Prop:=∀ a b c,a<BB->b<BB->c<=M->(F a b c).1<BB/\(F a b c).2<=M
theorem z5z {F:Nat->Nat->Nat->Nat × Nat} {M:Nat} (h:StepOk F M) {xs c:List Nat} (d:Small xs) (g:Small c) (k:Nat):Small (z0m F xs c k).1/\(z0m F xs c k).2<=M:=by
 induction k with
 | zero=>exact⟨z7x,Nat.zero_le _⟩
 | succ k ih=>exact⟨z7z ih.1 (h _ _ _ (d k) (g k) ih.2).1,(h _ _ _ (d k) (g k) ih.2).2⟩
def ClosOk (g:FuncId) (caps:Array Value) (F:Nat->Nat->Nat->Nat × Nat) (M:Nat) (w:World):Prop :=
 ∀ (a b c:Nat) (wr:World),Below w.heap.size w wr->a<BB->b<BB->c<=M ->
  Calls prog g (#[.int .u64 (a:Int),.int .u64 (b:Int),.int .u64 (c:Int)]++caps) wr fun e w'=>e=.returned (.tuple #[.int .u64 ((F a b c).1:Nat),.int .u64 ((F a b c).2:Nat)])/\wr=w'
def EachEnd (n:Nat) (w:World) (e:Ending) (w':World):Prop:=∃ v,e=.returned v/\Own w' w.heap.size 179 .u64 v (toB n)/\Below w.heap.size w w'
theorem v8h (g:FuncId) (Y:Array Value) (F:Nat->Nat->Nat->Nat × Nat) (M:Nat) (vx vy:Value) (xs d:List Nat) (w:World)
  (he:∀ args w,(callFunc g args).run prog w=.ok (.enter g args) w) (hF:StepOk F M) (a8:ClosOk g Y F M w)
  (b6:xs.length<d.length) (hx:Sl w .u64 vx xs) (hy:Sl w .u64 vy d) (sx:Small xs) (sy:Small d) (ly:d.length<=100000) :
  Calls prog 228 #[vx,vy,.func (.func g) #[] Y] w (EachEnd (bval (z0m F xs d (max xs.length d.length+1)).1) w):=by
 obtain⟨i0,hi,a2,Z,a1⟩:=info_parts z9t;obtain⟨ax,cx,bx,ox,rfl,R,b7,a9,b4,z⟩:=hx.open;obtain⟨ay,cy,a7,oy,rfl,O,b5,b0,b2,s⟩:=hy.open;unfold maxLen at a9 b0;have a5:=qh a8;clear a8 hx hy
 go_enter func228,ntmps228
 go_wp2
 go_loopw [7,8,19] (fun v c i wr=>∃ k:Nat,k<=max xs.length d.length+1/\i=.int .i64 k/\c=.int .u64 ((z0m F xs d k).2:Nat)/\Own wr w.heap.size 179 .u64 v (z0m F xs d k).1/\Below w.heap.size w wr)
  (fun _ _ i _=>max xs.length d.length+1-(intOf i).toNat)
 case atStart=>exact⟨0,Nat.zero_le _,rfl,rfl,Own.nil _ _ _ _,blr⟩
 obtain⟨k,hk,rfl,rfl,E,hb⟩:=hrel;obtain⟨W,D,rfl⟩:=E.shape;rw[z1a] at E;rw[z1a];have HO:=qh E;clear E;have J:=qh hb;clear hb;have a3:=J.out.size;by_cases b8:k<max xs.length d.length+1
 ·have S:=z5z hF sx sy k;have a4:=qh S;clear S;have a6:Hid (wr.ownsRow w.heap.size 179 1 (.slice W k D) k (vals .u64 (z0m F xs d k).1)):=qh (by have:=HO.out.raw;rw[z1a] at this;exact this)
  rcases Nat.lt_or_ge k d.length with U|U
  rcases Nat.lt_or_ge k xs.length with T|T
  rotate_left 2
  obtain T:xs.length<=k:=by omega
  rotate_left 1
  ·-- 1 1
   obtain rfl:=R (Nat.lt_of_le_of_lt (Nat.zero_le _) T);have c1:=(J.out.cell (p:=⟨bx,ox+k,none⟩) (b4 (Nat.lt_of_le_of_lt (Nat.zero_le _) T))).trans (z k T);obtain rfl:=O (Nat.lt_of_le_of_lt (Nat.zero_le _) U);have c2:=(J.out.cell (p:=⟨a7,oy+k,none⟩) (b2 (Nat.lt_of_le_of_lt (Nat.zero_le _) U))).trans (s k U);have j:=a5.out (nth xs k) (nth d k) (z0m F xs d k).2 wr J.out (sx k) (sy k) a4.out.2;have C:Own wr w.heap.size 179 .u64 (.slice W k D) (z0m F xs d k).1->∀ (B:Value) (A:World) (o:Obj),A.ownsRow w.heap.size 179 1 B (k+1) (vals .u64 (z0m F xs d k).1++[.int .u64 ((F (nth xs k) (nth d k) (z0m F xs d k).2).1:Nat)])->(wr.alloc o).grownBy A (Value.slice W k D).ownBlock->Own A w.heap.size 179 .u64 B (z0m F xs d (k+1)).1/\Below w.heap.size w A:=fun G B A o L P=>by
    have:=G.appended J.out a3 (by rw[z1a];exact L) P;simp only[z0m];exact this
   have u:(z0m F xs d (k+1)).2=(F (nth xs k) (nth d k) (z0m F xs d k).2).2:=by simp only[z0m]
   have K:=qh j;clear j;have I:=qh C;clear C;have Q:=qh u;clear u;clear R O z s
   go_wp2_with fail
   refine K.out.mono ?_;rintro e w' ⟨rfl,rfl⟩
   go_wp2_with (at_builtin;refine wpList_append_own _ rfl (.tmp 46) (.tmp 48) 199 rfl w.heap.size 179 i0 (.int .u64 0) 1 8 underlying199 hi a2 Z a1 rfl (by decide) _ _ _ rfl (World.ownsRow.alloc a6.out _) ⟨wr.heap.size,0,none⟩ 1 1 [.int .u64 ((F (nth xs k) (nth d k) (z0m F xs d k).2).1:Nat)] rfl rfl (cell_one_new _ _ _) (one_cell _ _) (by unfold maxLen;omega) (by omega) (by simp;omega) ?_;intro B A l h _)
   obtain⟨X,hb⟩:=I.out HO.out B A _ l h;clear l h;have H:=qh X;clear X;have N:=qh hb;clear hb;go_wp2;go_roundw
   case rel=>exact⟨k+1,by omega,by go_num,by rw[Q.out],H.out,N.out⟩
   simp[intOf];omega
  ·-- 0 1
   obtain rfl:=O (Nat.lt_of_le_of_lt (Nat.zero_le _) U);have c2:=(J.out.cell (p:=⟨a7,oy+k,none⟩) (b2 (Nat.lt_of_le_of_lt (Nat.zero_le _) U))).trans (s k U);have j:=a5.out 0 (nth d k) (z0m F xs d k).2 wr J.out z1w (sy k) a4.out.2;have C:Own wr w.heap.size 179 .u64 (.slice W k D) (z0m F xs d k).1->∀ (B:Value) (A:World) (o:Obj),A.ownsRow w.heap.size 179 1 B (k+1) (vals .u64 (z0m F xs d k).1++[.int .u64 ((F 0 (nth d k) (z0m F xs d k).2).1:Nat)])->(wr.alloc o).grownBy A (Value.slice W k D).ownBlock->Own A w.heap.size 179 .u64 B (z0m F xs d (k+1)).1/\Below w.heap.size w A:=fun G B A o L P=>by
    have:=G.appended J.out a3 (by rw[z1a];exact L) P;simp only[z0m];rw[z1q xs k T];exact this
   have u:(z0m F xs d (k+1)).2=(F 0 (nth d k) (z0m F xs d k).2).2:=by simp only[z0m];rw[z1q xs k T]
   have K:=qh j;clear j;have I:=qh C;clear C;have Q:=qh u;clear u;clear R O z s
   go_wp2_with fail
   refine K.out.mono ?_;rintro e w' ⟨rfl,rfl⟩
   go_wp2_with (at_builtin;refine wpList_append_own _ rfl (.tmp 46) (.tmp 48) 199 rfl w.heap.size 179 i0 (.int .u64 0) 1 8 underlying199 hi a2 Z a1 rfl (by decide) _ _ _ rfl (World.ownsRow.alloc a6.out _) ⟨wr.heap.size,0,none⟩ 1 1 [.int .u64 ((F 0 (nth d k) (z0m F xs d k).2).1:Nat)] rfl rfl (cell_one_new _ _ _) (one_cell _ _) (by unfold maxLen;omega) (by omega) (by simp;omega) ?_;intro B A l h _)
   obtain⟨X,hb⟩:=I.out HO.out B A _ l h;clear l h;have H:=qh X;clear X;have N:=qh hb;clear hb;go_wp2;go_roundw
   case rel=>exact⟨k+1,by omega,by go_num,by rw[Q.out],H.out,N.out⟩
   simp[intOf];omega
  have j:=a5.out 0 0 (z0m F xs d k).2 wr J.out z1w z1w a4.out.2;have C:Own wr w.heap.size 179 .u64 (.slice W k D) (z0m F xs d k).1->∀ (B:Value) (A:World) (o:Obj),A.ownsRow w.heap.size 179 1 B (k+1) (vals .u64 (z0m F xs d k).1++[.int .u64 ((F 0 0 (z0m F xs d k).2).1:Nat)])->(wr.alloc o).grownBy A (Value.slice W k D).ownBlock->Own A w.heap.size 179 .u64 B (z0m F xs d (k+1)).1/\Below w.heap.size w A:=fun G B A o L P=>by
   have:=G.appended J.out a3 (by rw[z1a];exact L) P;simp only[z0m];rw[z1q xs k T,z1q d k U];exact this
  have u:(z0m F xs d (k+1)).2=(F 0 0 (z0m F xs d k).2).2:=by simp only[z0m];rw[z1q xs k T,z1q d k U]
  have K:=qh j;clear j;have I:=qh C;clear C;have Q:=qh u;clear u;clear R O z s
  go_wp2_with fail
  refine K.out.mono ?_;rintro e w' ⟨rfl,rfl⟩
  go_wp2_with (at_builtin;refine wpList_append_own _ rfl (.tmp 46) (.tmp 48) 199 rfl w.heap.size 179 i0 (.int .u64 0) 1 8 underlying199 hi a2 Z a1 rfl (by decide) _ _ _ rfl (World.ownsRow.alloc a6.out _) ⟨wr.heap.size,0,none⟩ 1 1 [.int .u64 ((F 0 0 (z0m F xs d k).2).1:Nat)] rfl rfl (cell_one_new _ _ _) (one_cell _ _) (by unfold maxLen;omega) (by omega) (by simp;omega) ?_;intro B A l h _)
  obtain⟨X,hb⟩:=I.out HO.out B A _ l h;clear l h;have H:=qh X;clear X;have N:=qh hb;clear hb;go_wp2;go_roundw
  case rel=>exact⟨k+1,by omega,by go_num,by rw[Q.out],H.out,N.out⟩
  simp[intOf];omega
 go_wp2_with fail
 have b1:k=max xs.length d.length+1:=by omega
 have ht:=z6v W D (z0m F xs d k).1 wr (by rw[z1a];exact HO.out.sl);rw[z1a] at ht;refine ht.mono ?_;rintro e w' ⟨m,hm,rfl,rfl⟩;have HM:=qh hm;clear hm;have b3:=qh b1;clear b1;go_wp2;go_ret;have S:=z5z hF sx sy k;refine⟨_,rfl,?_,J.out⟩;rw[<- b3.out,<- z4g S.1 HM.out.1 HM.out.2.1 HM.out.2.2];exact HO.out.take HM.out.1
theorem u0g (g:FuncId) (Y:Array Value) (F:Nat->Nat->Nat->Nat × Nat) (M:Nat) (vx vy:Value) (xs d:List Nat) (w:World)
  (he:∀ args w,(callFunc g args).run prog w=.ok (.enter g args) w) (hF:StepOk F M) (a7:ClosOk g Y F M w)
  (b6:d.length<=xs.length) (hx:Sl w .u64 vx xs) (hy:Sl w .u64 vy d) (sx:Small xs) (sy:Small d) (lx:xs.length<=100000) :
  Calls prog 228 #[vx,vy,.func (.func g) #[] Y] w (EachEnd (bval (z0m F xs d (max xs.length d.length+1)).1) w):=by
 obtain⟨i0,hi,a2,Z,a1⟩:=info_parts z9t;obtain⟨ax,cx,bx,ox,rfl,J,b7,a8,a9,s⟩:=hx.open;obtain⟨ay,cy,b2,oy,rfl,T,b5,b0,b4,z⟩:=hy.open;unfold maxLen at a8 b0;have a5:=qh a7;clear a7 hx hy
 go_enter func228,ntmps228
 go_wp2
 go_loopw [7,8,19] (fun v c i wr=>∃ k:Nat,k<=max xs.length d.length+1/\i=.int .i64 k/\c=.int .u64 ((z0m F xs d k).2:Nat)/\Own wr w.heap.size 179 .u64 v (z0m F xs d k).1/\Below w.heap.size w wr)
  (fun _ _ i _=>max xs.length d.length+1-(intOf i).toNat)
 case atStart=>exact⟨0,Nat.zero_le _,rfl,rfl,Own.nil _ _ _ _,blr⟩
 obtain⟨k,hk,rfl,rfl,E,hb⟩:=hrel;obtain⟨W,D,rfl⟩:=E.shape;rw[z1a] at E;rw[z1a];have HO:=qh E;clear E;have K:=qh hb;clear hb;have a3:=K.out.size;by_cases b8:k<max xs.length d.length+1
 ·have R:=z5z hF sx sy k;have a4:=qh R;clear R;have a6:Hid (wr.ownsRow w.heap.size 179 1 (.slice W k D) k (vals .u64 (z0m F xs d k).1)):=qh (by have:=HO.out.raw;rw[z1a] at this;exact this)
  rcases Nat.lt_or_ge k xs.length with S|S
  rcases Nat.lt_or_ge k d.length with U|U
  rotate_left 2
  obtain U:d.length<=k:=by omega
  rotate_left 1
  ·-- 1 1
   obtain rfl:=J (Nat.lt_of_le_of_lt (Nat.zero_le _) S);have c1:=(K.out.cell (p:=⟨bx,ox+k,none⟩) (a9 (Nat.lt_of_le_of_lt (Nat.zero_le _) S))).trans (s k S);obtain rfl:=T (Nat.lt_of_le_of_lt (Nat.zero_le _) U);have c2:=(K.out.cell (p:=⟨b2,oy+k,none⟩) (b4 (Nat.lt_of_le_of_lt (Nat.zero_le _) U))).trans (z k U);have j:=a5.out (nth xs k) (nth d k) (z0m F xs d k).2 wr K.out (sx k) (sy k) a4.out.2;have C:Own wr w.heap.size 179 .u64 (.slice W k D) (z0m F xs d k).1->∀ (B:Value) (A:World) (o:Obj),A.ownsRow w.heap.size 179 1 B (k+1) (vals .u64 (z0m F xs d k).1++[.int .u64 ((F (nth xs k) (nth d k) (z0m F xs d k).2).1:Nat)])->(wr.alloc o).grownBy A (Value.slice W k D).ownBlock->Own A w.heap.size 179 .u64 B (z0m F xs d (k+1)).1/\Below w.heap.size w A:=fun G B A o N P=>by
    have:=G.appended K.out a3 (by rw[z1a];exact N) P;simp only[z0m];exact this
   have u:(z0m F xs d (k+1)).2=(F (nth xs k) (nth d k) (z0m F xs d k).2).2:=by simp only[z0m]
   have L:=qh j;clear j;have I:=qh C;clear C;have Q:=qh u;clear u;clear J T s z
   go_wp2_with fail
   refine L.out.mono ?_;rintro e w' ⟨rfl,rfl⟩
   go_wp2_with (at_builtin;refine wpList_append_own _ rfl (.tmp 46) (.tmp 48) 199 rfl w.heap.size 179 i0 (.int .u64 0) 1 8 underlying199 hi a2 Z a1 rfl (by decide) _ _ _ rfl (World.ownsRow.alloc a6.out _) ⟨wr.heap.size,0,none⟩ 1 1 [.int .u64 ((F (nth xs k) (nth d k) (z0m F xs d k).2).1:Nat)] rfl rfl (cell_one_new _ _ _) (one_cell _ _) (by unfold maxLen;omega) (by omega) (by simp;omega) ?_;intro B A l h _)
   obtain⟨X,hb⟩:=I.out HO.out B A _ l h;clear l h;have H:=qh X;clear X;have O:=qh hb;clear hb;go_wp2;go_roundw
   case rel=>exact⟨k+1,by omega,by go_num,by rw[Q.out],H.out,O.out⟩
   simp[intOf];omega
  ·-- 1 0
   obtain rfl:=J (Nat.lt_of_le_of_lt (Nat.zero_le _) S);have c1:=(K.out.cell (p:=⟨bx,ox+k,none⟩) (a9 (Nat.lt_of_le_of_lt (Nat.zero_le _) S))).trans (s k S);have j:=a5.out (nth xs k) 0 (z0m F xs d k).2 wr K.out (sx k) z1w a4.out.2;have C:Own wr w.heap.size 179 .u64 (.slice W k D) (z0m F xs d k).1->∀ (B:Value) (A:World) (o:Obj),A.ownsRow w.heap.size 179 1 B (k+1) (vals .u64 (z0m F xs d k).1++[.int .u64 ((F (nth xs k) 0 (z0m F xs d k).2).1:Nat)])->(wr.alloc o).grownBy A (Value.slice W k D).ownBlock->Own A w.heap.size 179 .u64 B (z0m F xs d (k+1)).1/\Below w.heap.size w A:=fun G B A o N P=>by
    have:=G.appended K.out a3 (by rw[z1a];exact N) P;simp only[z0m];rw[z1q d k U];exact this
   have u:(z0m F xs d (k+1)).2=(F (nth xs k) 0 (z0m F xs d k).2).2:=by simp only[z0m];rw[z1q d k U]
   have L:=qh j;clear j;have I:=qh C;clear C;have Q:=qh u;clear u;clear J T s z
   go_wp2_with fail
   refine L.out.mono ?_;rintro e w' ⟨rfl,rfl⟩
   go_wp2_with (at_builtin;refine wpList_append_own _ rfl (.tmp 46) (.tmp 48) 199 rfl w.heap.size 179 i0 (.int .u64 0) 1 8 underlying199 hi a2 Z a1 rfl (by decide) _ _ _ rfl (World.ownsRow.alloc a6.out _) ⟨wr.heap.size,0,none⟩ 1 1 [.int .u64 ((F (nth xs k) 0 (z0m F xs d k).2).1:Nat)] rfl rfl (cell_one_new _ _ _) (one_cell _ _) (by unfold maxLen;omega) (by omega) (by simp;omega) ?_;intro B A l h _)
   obtain⟨X,hb⟩:=I.out HO.out B A _ l h;clear l h;have H:=qh X;clear X;have O:=qh hb;clear hb;go_wp2;go_roundw
   case rel=>exact⟨k+1,by omega,by go_num,by rw[Q.out],H.out,O.out⟩
   simp[intOf];omega
  have j:=a5.out 0 0 (z0m F xs d k).2 wr K.out z1w z1w a4.out.2;have C:Own wr w.heap.size 179 .u64 (.slice W k D) (z0m F xs d k).1->∀ (B:Value) (A:World) (o:Obj),A.ownsRow w.heap.size 179 1 B (k+1) (vals .u64 (z0m F xs d k).1++[.int .u64 ((F 0 0 (z0m F xs d k).2).1:Nat)])->(wr.alloc o).grownBy A (Value.slice W k D).ownBlock->Own A w.heap.size 179 .u64 B (z0m F xs d (k+1)).1/\Below w.heap.size w A:=fun G B A o N P=>by
   have:=G.appended K.out a3 (by rw[z1a];exact N) P;simp only[z0m];rw[z1q xs k S,z1q d k U];exact this
  have u:(z0m F xs d (k+1)).2=(F 0 0 (z0m F xs d k).2).2:=by simp only[z0m];rw[z1q xs k S,z1q d k U]
  have L:=qh j;clear j;have I:=qh C;clear C;have Q:=qh u;clear u;clear J T s z
  go_wp2_with fail
  refine L.out.mono ?_;rintro e w' ⟨rfl,rfl⟩
  go_wp2_with (at_builtin;refine wpList_append_own _ rfl (.tmp 46) (.tmp 48) 199 rfl w.heap.size 179 i0 (.int .u64 0) 1 8 underlying199 hi a2 Z a1 rfl (by decide) _ _ _ rfl (World.ownsRow.alloc a6.out _) ⟨wr.heap.size,0,none⟩ 1 1 [.int .u64 ((F 0 0 (z0m F xs d k).2).1:Nat)] rfl rfl (cell_one_new _ _ _) (one_cell _ _) (by unfold maxLen;omega) (by omega) (by simp;omega) ?_;intro B A l h _)
  obtain⟨X,hb⟩:=I.out HO.out B A _ l h;clear l h;have H:=qh X;clear X;have O:=qh hb;clear hb;go_wp2;go_roundw
  case rel=>exact⟨k+1,by omega,by go_num,by rw[Q.out],H.out,O.out⟩
  simp[intOf];omega
 go_wp2_with fail
 have b1:k=max xs.length d.length+1:=by omega
 have ht:=z6v W D (z0m F xs d k).1 wr (by rw[z1a];exact HO.out.sl);rw[z1a] at ht;refine ht.mono ?_;rintro e w' ⟨m,hm,rfl,rfl⟩;have HM:=qh hm;clear hm;have b3:=qh b1;clear b1;go_wp2;go_ret;have R:=z5z hF sx sy k;refine⟨_,rfl,?_,K.out⟩;rw[<- b3.out,<- z4g R.1 HM.out.1 HM.out.2.1 HM.out.2.2];exact HO.out.take HM.out.1
theorem y7e (g:FuncId) (c:Array Value) (F:Nat->Nat->Nat->Nat × Nat) (M:Nat) (k j:Value) (xs h:List Nat) (w:World)
  (l:∀ args w,(callFunc g args).run prog w=.ok (.enter g args) w) (o:StepOk F M) (i:ClosOk g c F M w)
  (p:Sl w .u64 k xs) (s:Sl w .u64 j h) (u:Small xs) (m:Small h) (z:xs.length<=100000) (A:h.length<=100000) :
  Calls prog 228 #[k,j,.func (.func g) #[] c] w (EachEnd (bval (z0m F xs h (max xs.length h.length+1)).1) w):=by
 rcases Nat.lt_or_ge xs.length h.length with d|d
 ·exact v8h g c F M k j xs h w l o i d p s u m A
 exact u0g g c F M k j xs h w l o i d p s u m z
end
section
open Go.RowKit
def z7b (a b c:Nat):Nat × Nat:=((a+b+c) % 1000000000,(a+b+c) / 1000000000)
def z4f (a b c:Nat):Nat × Nat:=((a+1000000000-b-c) % 1000000000,1-(a+1000000000-b-c) / 1000000000)
def z2t (k:Nat) (a _b c:Nat):Nat × Nat:=((a*k+c) % 1000000000,(a*k+c) / 1000000000)
theorem v7i:StepOk z7b 1:=fun a b c g hb d=>by
 rw[z0s] at *;simp only[z7b];omega
theorem x2p:StepOk z4f 1:=fun a b c g hb d=>by
 rw[z0s] at *;simp only[z4f];omega
theorem y9y {a k c:Nat} (g:a<BB) (h:k<BB) (d:c<BB):a*k+c<1000000000*1000000000:=by
 rw[z0s] at *;have:a*k<=999999999*999999999:=Nat.mul_le_mul (by omega) (by omega);omega
theorem x5e {k:Nat} (d:k<BB):StepOk (z2t k) 999999999:=fun a b c g hb h=>by
 have:=y9y g d (show c<BB by rw[z0s];omega);simp only[z2t,z0s];exact⟨Nat.mod_lt _ (by omega),by omega⟩
theorem v4y (w:World):ClosOk 229 #[] z7b 1 w:=fun a b c wr _ d hb g=>by
 rw[z0s] at d hb;simp only[z7b]
 go_enter func229,ntmps229
 go_wp2;go_ret2;exact⟨rfl,rfl⟩
theorem v2f (w:World):ClosOk 236 #[] z4f 1 w:=fun a b c wr _ d hb g=>by
 rw[z0s] at d hb;simp only[z4f]
 go_enter func236,ntmps236
 go_wp2;go_ret2;exact⟨v7d (by omega) (by omega),rfl⟩
theorem x7f (k bx:Nat) (w:World) (o:k<BB) (g:bx<w.heap.size) (h:w.cell? ⟨bx,0,none⟩=some (.int .u64 (k:Int))) :
  ClosOk 248 #[.pointer (some ⟨bx,0,none⟩)] (z2t k) 999999999 w:=fun a b c wr hb i _ j=>by
 have s:=y9y i o (show c<BB by rw[z0s];omega);have d:=(hb.cell (p:=⟨bx,0,none⟩) g).trans h;have m:0<=(a:Int)*(k:Int):=Int.mul_nonneg (Int.natCast_nonneg _) (Int.natCast_nonneg _);have l:(a:Int)*(k:Int)+(c:Int)<1000000000000000000:=by rw[<- Int.natCast_mul];omega
 clear h s;simp only[z2t]
 go_enter func248,ntmps248
 go_wp2;go_ret2;exact⟨rfl,rfl⟩
theorem z2m {xs:List Nat} {k:Nat} (h:xs.length<=k):xs.take k=xs:=List.take_of_length_le h
theorem x6r (xs d:List Nat) (k:Nat):bval (z0m z7b xs d k).1+BB ^ k*(z0m z7b xs d k).2=bval (xs.take k)+bval (d.take k):=by
 induction k with
 | zero=>simp[z0m,bval]
 | succ k ih =>
  simp only[z0m];rw[z6n,z1a,z0k,z0k,Nat.pow_succ];generalize (z0m z7b xs d k).2=c at *;generalize bval (z0m z7b xs d k).1=l at *;generalize nth xs k=a;generalize nth d k=b;have h:(z7b a b c).1+BB*(z7b a b c).2=a+b+c:=by simp only[z7b,z0s];omega
  have g:BB ^ k*(a+b+c)=BB ^ k*(z7b a b c).1+BB ^ k*BB*(z7b a b c).2:=by rw[<- h,Nat.mul_add,<- Nat.mul_assoc]
  rw[Nat.mul_add,Nat.mul_add] at g;omega
theorem y5d (F:Nat->Nat->Nat->Nat × Nat) (xs c:List Nat) (k:Nat):(z0m F xs c (k+1)).2=(F (nth xs k) (nth c k) (z0m F xs c k).2).2:=rfl
theorem x1r {c:Nat} (h:c<=1):(z7b 0 0 c).2=0:=by simp only[z7b];omega
theorem x8z (xs c:List Nat) (j:Small xs) (k:Small c) (n:Nat) (d:xs.length<=n) (g:c.length<=n):bval (z0m z7b xs c (n+1)).1=bval xs+bval c:=by
 have h:=x6r xs c (n+1);rw[z2m (Nat.le_succ_of_le d),z2m (Nat.le_succ_of_le g)] at h;have i:(z0m z7b xs c (n+1)).2=0:=by
  rw[y5d,z1q xs _ d,z1q c _ g];exact x1r (z5z v7i j k n).2
 rw[i,Nat.mul_zero,Nat.add_zero] at h;exact h
theorem v5i (xs c:List Nat) (d:Small xs) (g:Small c):bval (z0m z7b xs c (max xs.length c.length+1)).1=bval xs+bval c :=
 x8z xs c d g _ (Nat.le_max_left _ _) (Nat.le_max_right _ _)
theorem x1h (xs d:List Nat) (g:Small xs) (i:Small d) (k:Nat):bval (z0m z4f xs d k).1+bval (d.take k)=bval (xs.take k)+BB ^ k*(z0m z4f xs d k).2:=by
 induction k with
 | zero=>simp[z0m,bval]
 | succ k ih =>
  have m:=(z5z x2p g i k).2;have o:=g k;have hb:=i k;simp only[z0m];rw[z6n,z1a,z0k,z0k,Nat.pow_succ];generalize (z0m z4f xs d k).2=c at *;generalize bval (z0m z4f xs d k).1=l at *;generalize nth xs k=a at *;generalize nth d k=b at *;have h:(z4f a b c).1+b+c=a+BB*(z4f a b c).2:=by rw[z0s] at *;simp only[z4f];omega
  have j:BB ^ k*((z4f a b c).1+b+c)=BB ^ k*a+BB ^ k*BB*(z4f a b c).2:=by rw[h,Nat.mul_add,<- Nat.mul_assoc]
  rw[Nat.mul_add,Nat.mul_add] at j;omega
theorem x6y (xs d:List Nat) (j:Small xs) (m:Small d) (p:bval d<=bval xs) (n:Nat) (o:xs.length<=n) (s:d.length<=n):bval (z0m z4f xs d n).1=bval xs-bval d:=by
 have h:=x1h xs d j m n;rw[z2m o,z2m s] at h;have g:=z5z x2p j m n;have i:=z3w g.1;rw[z1a] at i;generalize bval (z0m z4f xs d n).1=l at *;generalize (z0m z4f xs d n).2=c at *
 rcases Nat.eq_zero_or_pos c with k|k
 ·subst k;rw[Nat.mul_zero,Nat.add_zero] at h;omega
 have:c=1:=by have:=g.2;omega
 subst this;rw[Nat.mul_one] at h;omega
theorem x9a (xs c:List Nat) (g:Small xs) (h:Small c) (d:bval c<=bval xs):bval (z0m z4f xs c (max xs.length c.length+1)).1=bval xs-bval c :=
 x6y xs c g h d _ (Nat.le_succ_of_le (Nat.le_max_left _ _)) (Nat.le_succ_of_le (Nat.le_max_right _ _))
theorem x0y (m:Nat) (xs:List Nat) (k:Nat):bval (z0m (z2t m) xs [] k).1+BB ^ k*(z0m (z2t m) xs [] k).2=bval (xs.take k)*m:=by
 induction k with
 | zero=>simp[z0m,bval]
 | succ k ih =>
  simp only[z0m];rw[z6n,z1a,z0k,Nat.pow_succ,Nat.add_mul,Nat.mul_assoc (BB ^ k) (nth xs k) m];generalize (z0m (z2t m) xs [] k).2=c at *;generalize bval (z0m (z2t m) xs [] k).1=l at *;generalize nth xs k=a;have h:(z2t m a (nth [] k) c).1+BB*(z2t m a (nth [] k) c).2=a*m+c:=by simp only[z2t,z0s];omega
  have d:BB ^ k*(a*m+c)=BB ^ k*(z2t m a (nth [] k) c).1+BB ^ k*BB*(z2t m a (nth [] k) c).2:=by rw[<- h,Nat.mul_add,<- Nat.mul_assoc]
  rw[Nat.mul_add] at d;omega
theorem x6e {m:Nat} (g:m<BB) (xs:List Nat) (d:Small xs):bval (z0m (z2t m) xs [] (max xs.length ([]:List Nat).length+1)).1=bval xs*m:=by
 have h:=x0y m xs (max xs.length ([]:List Nat).length+1);rw[z2m (by omega)] at h;have c:(z0m (z2t m) xs [] (max xs.length ([]:List Nat).length+1)).2=0:=by
  have:=(z5z (x5e g) d z7x (max xs.length ([]:List Nat).length)).2;simp only[z0m,z2t];rw[z1q xs _ (by omega),Nat.zero_mul,Nat.zero_add];exact Nat.div_eq_of_lt (by omega)
 rw[c] at h;simpa using h
theorem EachEnd.of {n:Nat} {w:World} {e:Ending} {c:World} (h:EachEnd n w e c):∃ v,e=.returned v/\Own c w.heap.size 179 .u64 v (toB n)/\Below w.heap.size w c:=h
theorem enter46:∀ args w,(callFunc 229 args).run prog w=.ok (.enter 229 args) w:=fun args w=>by kernel_rfl
theorem enter52:∀ args w,(callFunc 236 args).run prog w=.ok (.enter 236 args) w:=fun args w=>by kernel_rfl
theorem enter63:∀ args w,(callFunc 248 args).run prog w=.ok (.enter 248 args) w:=fun args w=>by kernel_rfl
theorem v3v (g c:Value) (m n:Nat) (w:World) (i:Sl w .u64 g (toB m)) (j:Sl w .u64 c (toB n)) (l:(toB m).length<=100000) (p:(toB n).length<=100000) :
  Calls prog 219 #[g,c] w (EachEnd (m+n) w):=by
 have d:=y7e 229 #[] z7b 1 g c (toB m) (toB n) w enter46 v7i (v4y w) i j (z0x m) (z0x n) l p;rw[v5i _ _ (z0x m) (z0x n),z0y,z0y] at d;have o:=qh d;clear d i j
 go_enter func219,ntmps219
 go_wp2_with fail
 refine o.out.mono ?_;rintro e s ⟨v,rfl,h⟩;have k:=qh h;clear h;go_wp2;go_ret;exact⟨v,rfl,k.out⟩
theorem v1q (g c:Value) (m n:Nat) (w:World) (i:Sl w .u64 g (toB m)) (k:Sl w .u64 c (toB n)) (o:(toB m).length<=100000) (s:(toB n).length<=100000) (h:n<=m) :
  Calls prog 222 #[g,c] w (EachEnd (m-n) w):=by
 have d:=y7e 236 #[] z4f 1 g c (toB m) (toB n) w enter52 x2p (v2f w) i k (z0x m) (z0x n) o s;rw[x9a _ _ (z0x m) (z0x n) (by rw[z0y,z0y];exact h),z0y,z0y] at d;have p:=qh d;clear d i k
 go_enter func222,ntmps222
 go_wp2_with fail
 refine p.out.mono ?_;rintro e u ⟨v,rfl,j⟩;have l:=qh j;clear j;go_wp2;go_ret;exact⟨v,rfl,l.out⟩
theorem y6g (h:Value) (m k:Nat) (w:World) (i:k<BB) (o:Sl w .u64 h (toB m)) (p:(toB m).length<=100000) :
  Calls prog 237 #[h,.int .u64 (k:Int)] w (EachEnd (m*k) w):=by
 have c:Below w.heap.size w (w.alloc (.cells #[.int .u64 (k:Int)] 179)):=blr.alloc nlr _;have g:=y7e 248 #[.pointer (some ⟨w.heap.size,0,none⟩)] (z2t k) 999999999 h (.slice none 0 0) (toB m) [] (w.alloc (.cells #[.int .u64 (k:Int)] 179)) enter63 (x5e i)
  (x7f k w.heap.size _ i (by simp) (by simp)) (o.below c nlr) (Sl.nil _ _) (z0x m) z7x p (by simp)
 rw[x6e i _ (z0x m),z0y] at g;have s:=qh g;clear g o;have d:=qh c;clear c
 go_enter func237,ntmps237
 go_wp2_with fail
 refine s.out.mono ?_;rintro e u ⟨v,rfl,j⟩;have l:=qh j;clear j;go_wp2;go_ret;exact⟨v,rfl,l.out.1.mono (by simp),d.out.trans (l.out.2.mono (by simp))⟩
end
end Go.Proofs.YteappjogmnogcaaGreatDoor
