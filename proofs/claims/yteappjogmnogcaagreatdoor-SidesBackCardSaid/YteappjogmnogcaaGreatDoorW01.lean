/- Parts of a proof: MB. -/
import Derived.Test.YteappjogmnogcaaGreatDoorW00
namespace Go.Proofs.YteappjogmnogcaaGreatDoor
set_option maxRecDepth 100000
set_option linter.unusedSimpArgs false
set_option linter.unusedVariables false
set_option linter.unusedSectionVars false
set_option maxHeartbeats 16000000
open Go Tryz
section
open Go.RowKit
def Trimmed (xs:List Nat) (k:Nat):Prop:=k<=xs.length/\(∀ j,k<=j->nth xs j=0)/\(k=0\/nth xs (k-1)≠0)
def TrimEnd (a:Option Addr) (cap:Nat) (xs:List Nat) (w:World) (e:Ending) (w':World):Prop:=∃ k,Trimmed xs k/\e=.returned (.slice a k cap)/\w=w'
theorem z7d (a:Option Addr) (cap:Nat) (xs:List Nat) (w:World) (h:Sl w .u64 (.slice a xs.length cap) xs) :
  Calls prog 207 #[.slice a xs.length cap] w (TrimEnd a cap xs w):=by
 rcases h with ⟨g,rfl⟩|⟨b,o,c,g,F,E,z,B⟩
 ·simp only[Value.slice.injEq] at g;obtain⟨rfl,_,rfl⟩:=g
  go_enter func207,ntmps207
  go_wp2
  go_loop [0] (fun v=>v=.slice none 0 0) (fun v=>lenV v)
  case atStart=>exact rfl
  obtain rfl:=hrel;go_wp2;go_ret;exact⟨0,⟨Nat.zero_le _,fun j _=>z1q [] j (Nat.zero_le _),.inl rfl⟩,rfl,rfl⟩
 simp only[Value.slice.injEq,true_and] at g;obtain⟨rfl,rfl⟩:=g;unfold maxLen at z
 go_enter func207,ntmps207
 go_wp2
 go_loop [0] (fun v=>∃ k:Nat,k<=xs.length/\v=.slice (some ⟨b,o,none⟩) k cap/\∀ j,k<=j->nth xs j=0) (fun v=>lenV v)
 case atStart=>exact⟨xs.length,nlr,rfl,fun j s=>z1q xs j s⟩
 obtain⟨k,p,rfl,u⟩:=hrel;have l:=qh u;clear u;by_cases D:k=0
 ·subst D;go_wp2;go_ret;exact⟨0,⟨p,l.out,.inl rfl⟩,rfl,rfl⟩
 obtain⟨m,rfl⟩:∃ m,k=m+1:=⟨k-1,by omega⟩;have C:=B m (by omega);by_cases i:nth xs m=0
 ·have d:=qh i;clear i;rw[d.out] at C;go_wp2
  go_round
  case rel=>exact⟨m,by omega,rfl,fun j s=>by
   by_cases e:j=m
   ·rw[e];exact d.out
   exact l.out j (by omega)⟩
  simp[lenV]
 have d:=qh i;clear i;have A:(((nth xs m:Nat):Int)==0)=false:=by rw[beq_eq_false_iff_ne];have:=d.out;omega
 go_wp2;go_ret;exact⟨m+1,⟨p,l.out,.inr d.out⟩,rfl,rfl⟩
end
section
theorem u2s:∃ b:Nat,b=1000000000:=⟨_,rfl⟩
noncomputable def BB:Nat:=Classical.choose u2s
theorem z0r:BB=1000000000:=Classical.choose_spec u2s
theorem z1w:0<BB:=by rw[z0r];omega
theorem y5j:1<BB:=by rw[z0r];omega
noncomputable def bval:List Nat->Nat | []=>0|x::xs=>x+BB*bval xs
def Small (xs:List Nat):Prop:=∀ i,nth xs i<BB
theorem z7r:Small []:=fun i=>by rw[z1q _ _ (Nat.zero_le _)];exact z1w
theorem z6t (x:Nat) (xs:List Nat):nth (x::xs) 0=x:=rfl
theorem z5d (x:Nat) (xs:List Nat) (i:Nat):nth (x::xs) (i+1)=nth xs i:=rfl
theorem z4b (xs c:List Nat) (i:Nat) (h:i<xs.length):nth (xs++c) i=nth xs i:=by simp[nth,List.getD_eq_getElem?_getD,List.getElem?_append_left h]
theorem z3d (xs c:List Nat) (i:Nat) (h:xs.length<=i):nth (xs++c) i=nth c (i-xs.length):=by simp[nth,List.getD_eq_getElem?_getD,List.getElem?_append_right h]
theorem y1j {x:Nat} {xs:List Nat}:Small (x::xs)↔x<BB/\Small xs :=
 ⟨fun h=>⟨h 0,fun i=>h (i+1)⟩,fun ⟨c,d⟩ i=>by cases i with
  | zero=>exact c
  | succ i=>exact d i⟩
theorem z8n {x:Nat} {xs:List Nat} (h:Small xs) (d:x<BB):Small (xs++[x]):=fun i=>by
 by_cases c:i<xs.length
 ·rw[z4b _ _ _ c];exact h i
 rw[z3d _ _ _ (by omega)];cases i-xs.length with
 | zero=>exact d
 | succ j=>exact z1w
theorem z4j {xs:List Nat} (h:Small xs) (k:Nat):Small (xs.take k):=fun i=>by
 by_cases c:i<k
 ·rw[z8u _ _ _ c];exact h i
 rw[z1q _ _ (by rw[List.length_take];omega)];exact z1w
theorem z4g (xs c:List Nat):bval (xs++c)=bval xs+BB ^ xs.length*bval c:=by
 induction xs with
 | nil=>simp[bval]
 | cons x xs ih=>simp only[List.cons_append,bval,ih,List.length_cons,Nat.pow_succ];rw[Nat.mul_add,Nat.mul_comm (BB ^ xs.length) BB,Nat.mul_assoc];omega
theorem z6g (xs:List Nat) (x:Nat):bval (xs++[x])=bval xs+BB ^ xs.length*x:=by rw[z4g];simp[bval]
theorem z0k (xs:List Nat) (k:Nat):bval (xs.take (k+1))=bval (xs.take k)+BB ^ k*nth xs k:=by
 by_cases h:k<xs.length
 ·rw[y5v xs k h,z6g,List.length_take,Nat.min_eq_left (by omega)]
 rw[List.take_of_length_le (by omega),List.take_of_length_le (by omega),z1q xs k (by omega)];simp
theorem z3s {xs:List Nat} (h:Small xs):bval xs<BB ^ xs.length:=by
 induction xs with
 | nil=>simp[bval]
 | cons x xs ih =>
  obtain⟨g,d⟩:=y1j.1 h;have:=ih d;simp only[bval,List.length_cons,Nat.pow_succ];have c:BB*(bval xs+1)<=BB*BB ^ xs.length:=Nat.mul_le_mul_left _ this;rw[Nat.mul_comm (BB ^ xs.length)];rw[Nat.mul_add] at c;omega
theorem y9c {xs:List Nat} (h:∀ i,nth xs i=0):bval xs=0:=by
 induction xs with
 | nil=>rfl
 | cons x xs ih=>simp only[bval];rw[ih (fun i=>h (i+1)),show x=0 from h 0];simp
noncomputable def toBf:Nat->Nat->List Nat
 | 0,_=>[]
 | f+1,n=>if n=0 then [] else n % BB::toBf f (n / BB)
noncomputable def toB (n:Nat):List Nat:=toBf n n
theorem v9v:∀ (f g n:Nat),n<=f->n<=g->toBf f n=toBf g n:=by
 intro f
 induction f with
 | zero =>
      intro g n h _;have:n=0:=by omega
      subst this;cases g<;>simp[toBf]
 | succ f ih =>
  intro g n d i;by_cases c:n=0
  ·subst c;cases g<;>simp[toBf]
  cases g with
  | zero=>omega
  | succ g =>
   simp only[toBf,if_neg c];have:n / BB<n:=Nat.div_lt_self (by omega) y5j;rw[ih g (n / BB) (by omega) (by omega)]
theorem y3a:toB 0=[]:=rfl
theorem z9q {n:Nat} (h:n≠0):toB n=n % BB::toB (n / BB):=by
 unfold toB;cases n with
 | zero=>exact absurd rfl h
 | succ n =>
  have:(n+1) / BB<n+1:=Nat.div_lt_self (by omega) y5j;simp only[toBf,if_neg h];rw[v9v n ((n+1) / BB) ((n+1) / BB) (by omega) (by omega)]
theorem z1a (n:Nat):bval (toB n)=n:=by
 induction n using Nat.strongRecOn with
 | ind n ih =>
  by_cases h:n=0
  ·subst h;rfl
  rw[z9q h];simp only[bval];rw[ih (n / BB) (Nat.div_lt_self (by omega) y5j)];exact Nat.mod_add_div n BB
theorem z0x (n:Nat):Small (toB n):=by
 induction n using Nat.strongRecOn with
 | ind n ih =>
  by_cases h:n=0
  ·subst h;exact z7r
  rw[z9q h];exact y1j.2 ⟨Nat.mod_lt _ z1w,ih (n / BB) (Nat.div_lt_self (by omega) y5j)⟩
theorem v3q:∀ {xs:List Nat},Small xs->(xs=[]\/nth xs (xs.length-1)≠0)->toB (bval xs)=xs:=by
 intro xs
 induction xs with
 | nil=>intro _ _;rfl
 | cons x xs ih =>
  intro j p;obtain⟨i,l⟩:=y1j.1 j;have g:nth (x::xs) xs.length≠0:=by
   rcases p with h|h
   ·simp at h
   simpa using h
  have hi:xs=[]\/nth xs (xs.length-1)≠0:=by
   cases xs with
   | nil=>exact .inl rfl
   | cons y ys=>exact .inr (by simpa [z5d] using g)
  have c:=ih l hi;have d:bval (x::xs)≠0:=by
   cases xs with
   | nil =>
        simp only[bval];have:x≠0:=g;omega
   | cons y ys =>
    intro e;simp only[bval] at e;have k:bval (y::ys)=0:=by
     simp only[bval];have:=z1w
     rcases Nat.eq_zero_or_pos (y+BB*bval ys) with h|h
     ·exact h
     have:0<BB*(y+BB*bval ys):=Nat.mul_pos z1w h;omega
    rw[k] at c;simp[y3a] at c
  rw[z9q d];have o:bval (x::xs) % BB=x:=by simp only[bval];rw[Nat.add_mul_mod_self_left,Nat.mod_eq_of_lt i]
  have m:bval (x::xs) / BB=bval xs:=by simp only[bval];rw[Nat.add_mul_div_left _ _ z1w,Nat.div_eq_of_lt i,Nat.zero_add]
  rw[o,m,c]
theorem y6t {n:Nat} (h:n≠0):nth (toB n) ((toB n).length-1)≠0:=by
 induction n using Nat.strongRecOn with
 | ind n ih =>
  rw[z9q h];by_cases c:n / BB=0
  ·rw[c,y3a];show n % BB≠0;have:=Nat.mod_add_div n BB;rw[c] at this;omega
  have:=ih (n / BB) (Nat.div_lt_self (by omega) y5j) c;have d:1<=(toB (n / BB)).length:=by rw[z9q c];simp
  rw[List.length_cons,show (toB (n / BB)).length+1-1=((toB (n / BB)).length-1)+1 by omega,z5d];exact this
theorem y2f {n:Nat} (h:n≠0):1<=(toB n).length:=by rw[z9q h];simp
theorem z6j {n k:Nat} (h:n<BB ^ k):(toB n).length<=k:=by
 induction k generalizing n with
 | zero =>
      have:n=0:=by simp at h;exact h
      subst this;simp[y3a]
 | succ k ih =>
  by_cases c:n=0
  ·subst c;simp[y3a]
  rw[z9q c];have:n / BB<BB ^ k:=Nat.div_lt_of_lt_mul (by rw[Nat.pow_succ,Nat.mul_comm] at h;exact h);have:=ih this;simp;omega
theorem x6e {n:Nat} (h:n≠0):BB ^ ((toB n).length-1)<=n:=by
 have c:=z1a n;have i:=y6t h;have g:=y2f h;have d:=z0k (toB n) ((toB n).length-1);rw[show (toB n).length-1+1=(toB n).length by omega,List.take_length,c] at d;have:BB ^ ((toB n).length-1)*1<=BB ^ ((toB n).length-1)*nth (toB n) ((toB n).length-1):=Nat.mul_le_mul_left _ (by omega);omega
theorem z2h {m n:Nat} (h:m<=n):(toB m).length<=(toB n).length :=
 z6j (Nat.lt_of_le_of_lt h (by have:=z3s (z0x n);rw[z1a] at this;exact this))
theorem y2a {xs:List Nat} {k:Nat} (c:∀ j,k<=j->nth xs j=0):bval (xs.take k)=bval xs:=by
 have h:=z4g (xs.take k) (xs.drop k);rw[List.take_append_drop] at h;rw[h,y9c (xs:=xs.drop k) (fun i=>by
  have:nth (xs.drop k) i=nth xs (k+i):=by simp[nth,List.getD_eq_getElem?_getD]
  rw[this];exact c _ (by omega))]
 simp
theorem z4i {xs:List Nat} {k:Nat} (h:Small xs) (d:k<=xs.length) (g:∀ j,k<=j->nth xs j=0) (c:k=0\/nth xs (k-1)≠0):xs.take k=toB (bval xs):=by
 rw[<- y2a g]
 symm
 apply v3q (z4j h k)
 rcases c with rfl|c
 ·left;simp
 by_cases i:k=0
 ·subst i;left;simp
 right;rw[List.length_take,Nat.min_eq_left d,z8u _ _ _ (by omega)];exact c
end
section
open Go.RowKit
def seg (t:ByteArray) (c i:Nat):Nat:=num (((bts t).take i).drop c)
theorem v4j (t:ByteArray) (c:Nat):seg t c c=0:=by unfold seg;rw[List.drop_of_length_le (by rw[List.length_take];omega)];rfl
theorem v6m (t:ByteArray) (c i:Nat) (d:c<=i) (h:i<t.size):seg t c (i+1)=10*seg t c i+(t[i].toNat-48):=by
 unfold seg;rw[x0z t i h,List.drop_append_of_le_length (by rw[List.length_take,z1p];omega),z5x]
theorem x3i {l:List UInt8} (h:dgts l=true) (a b:Nat):dgts ((l.take a).drop b)=true:=by
 unfold dgts at *;rw[List.all_eq_true] at *;exact fun x c=>h x (List.mem_of_mem_take (List.mem_of_mem_drop c))
theorem seg_lt (t:ByteArray) (c i:Nat) (h:dgts (bts t)=true) (hi:i<=c+9):seg t c i<1000000000:=by
 have d:=v8e _ (x3i h i c);have:(((bts t).take i).drop c).length<=9:=by rw[List.length_drop,List.length_take];omega
 have g:10 ^ (((bts t).take i).drop c).length<=10 ^ 9:=Nat.pow_le_pow_right (by omega) this;unfold seg;omega
theorem x7d (l r:List UInt8):num (l++r)=num l*10 ^ r.length+num r:=by
 suffices h:∀ (k:Nat) (r:List UInt8),r.length=k->num (l++r)=num l*10 ^ r.length+num r from h _ r rfl
 intro k
 induction k with
 | zero =>
      intro r h;have:r=[]:=List.length_eq_zero_iff.1 h;subst this;simp[num]
 | succ k ih =>
  intro r h;obtain⟨m,c,rfl⟩:=y5a r (by intro e;subst e;simp at h);simp at h;rw[<- List.append_assoc,z5x,z5x,ih m h,List.length_append,List.length_singleton,Nat.pow_succ,Nat.mul_add,<- Nat.mul_assoc,<- Nat.mul_assoc,Nat.mul_comm (num l*10 ^ m.length) 10,<- Nat.mul_assoc];omega
theorem v9m (t:ByteArray) (c:Nat):num (bts t)=num ((bts t).take c)*10 ^ ((bts t).length-c)+seg t c t.size:=by
 have h:=x7d ((bts t).take c) ((bts t).drop c);rw[List.take_append_drop,List.length_drop] at h;have e:seg t c t.size=num ((bts t).drop c):=by unfold seg;rw[List.take_of_length_le (by rw[z1p];omega)]
 rw[e];exact h
theorem pow9 (k:Nat):10 ^ (9*k)=BB ^ k:=by rw[Nat.pow_mul,z0r]
structure BlkInv (s t:ByteArray) (l:List Nat):Prop where
 small:Small l
 dig:dgts (bts t)=true
 val:num (bts s)=num (bts t)*BB ^ l.length+bval l
 len:t.size<=1000/\(t.size=0\/t.size+9*l.length=s.size)
theorem BlkInv.step {s t:ByteArray} {l:List Nat} (h:BlkInv s t l) (c:Nat) (i:c=t.size-9) (j:0<t.size):BlkInv s (t.extract 0 c) (l++[seg t c t.size]):=by
 have hb:bts (t.extract 0 c)=(bts t).take c:=by
  have:=Lib.extract_data t 0 c;unfold bts;rw[this];simp
 have d:(t.extract 0 c).size=c:=by rw[<- z1p,hb,List.length_take,z1p];omega
 refine⟨z8n h.small (by rw[z0r];exact seg_lt t c t.size h.dig (by omega)),?_,?_,?_⟩
 ·rw[hb];have:=x3i h.dig c 0;simpa using this
 ·rw[h.val,z6g,hb,v9m t c,List.length_append,List.length_singleton];by_cases g:9<=t.size
  ·rw[show (bts t).length-c=9*1 by rw[z1p];omega,pow9,Nat.pow_succ BB l.length,Nat.pow_one,Nat.add_mul,Nat.mul_assoc,Nat.mul_comm BB (BB ^ l.length),Nat.mul_comm (seg t c t.size)];omega
  have:c=0:=by omega
  subst this;simp only[List.take_zero,show num []=0 from rfl,Nat.zero_mul,Nat.zero_add];rw[Nat.mul_comm];omega
 rw[d,List.length_append,List.length_singleton];have:=h.len;omega
theorem BlkInv.done {s t:ByteArray} {l:List Nat} (h:BlkInv s t l) (c:t.size=0):bval l=num (bts s):=by
 have:bts t=[]:=List.length_eq_zero_iff.1 (by rw[z1p];exact c);rw[h.val,this];simp[num]
theorem y0g:(prog.info? 179).map (fun i=>(i.zero,i.size,i.bytes))=some (some (.int .u64 0),1,8):=by kernel_rfl
def BlocksEnd (n:Nat) (w:World) (e:Ending) (w':World):Prop:=∃ v,e=.returned v/\Own w' w.heap.size 179 .u64 v (toB n)/\Below w.heap.size w w'
theorem x6m (s:ByteArray) (w:World) (X:s.size<=1000) (z:dgts (bts s)=true) :
  Calls prog 205 #[.string s] w (BlocksEnd (num (bts s)) w):=by
 obtain⟨i0,hi,H,I,J⟩:=info_parts y0g;have F:BlkInv s s []:=⟨z7r,z,by simp[bval],X,.inr (by simp)⟩;clear z X;have Y:=qh F;clear F
 go_enter func205,ntmps205
 go_wp2
 go_loopw [0,3] (fun a v wr=>∃ t l,a=.string t/\BlkInv s t l/\Own wr w.heap.size 179 .u64 v l/\Below w.heap.size w wr)
  (fun a _ _=>strV a)
 case atStart=>exact⟨s,[],rfl,Y.out,Own.nil _ _ _ _,blr⟩
 obtain⟨t,l,rfl,g,j,hb⟩:=hrel;obtain⟨ad,K,rfl⟩:=j.shape;have m:=qh g.dig;have R:=g.len.1;have B:=qh g;clear g;have E:=qh j;clear j;have P:=qh hb;clear hb;by_cases F:t.size=0
 ·go_wp2_with fail
  refine(z7d ad K l wr E.out.sl).mono ?_;rintro e w' ⟨k,S,rfl,rfl⟩;have D:=qh S;clear S;go_wp2;go_ret;refine⟨_,rfl,?_,P.out⟩;rw[<- B.out.done F,<- z4i B.out.small D.out.1 D.out.2.1 D.out.2.2];exact E.out.take D.out.1
 have W:0<t.size:=by omega
 obtain⟨c,T⟩:=exq (t.size-9);have p:=qh T;clear T
 rcases Nat.lt_or_ge t.size 10 with h9|h9
 all_goals
  go_wp2
  go_loop [5,6] (fun n i=>∃ k:Nat,c<=k/\k<=t.size/\i=.int .i64 k/\n=.int .u64 (seg t c k:Nat)) (fun _ i=>t.size-(intOf i).toNat)
  case atStart=>exact⟨c,nlr,by have:=p.out;omega,by have:=p.out;go_num,by rw[v4j];rfl⟩
  obtain⟨k,L,a2,rfl,rfl⟩:=hrel;by_cases o:k<t.size
  ·have hn:=seg_lt t c k m.out (by have:=p.out;omega);have z:=v5m m.out k (by rw[z1p];exact o);rw[u1a t k o] at z;have a4:(48:Int)<=(t[k].toNat:Int):=by omega
   have a3:(t[k].toNat:Int)<=57:=by omega
   clear z;go_wp2
   go_round
   case rel=>exact⟨k+1,by omega,by omega,by go_num,by rw[v6m t c k L o];go_num⟩
   simp[intOf];omega
  have a1:l.length<=1000:=by have:=B.out.len.2;have:=B.out.step c p.out W;have:=Y.out.len.1;omega
  have O:=P.out.size
  go_wp2_with (at_builtin;refine wpList_append_own _ rfl (.tmp 29) (.tmp 31) 199 rfl w.heap.size 179 i0 (.int .u64 0) 1 8 underlying199 hi H I J rfl (by decide) _ _ _ rfl (World.ownsRow.alloc E.out.raw _) ⟨wr.heap.size,0,none⟩ 1 1 [.int .u64 (seg t c k:Nat)] rfl rfl (cell_one_new _ _ _) (one_cell _ _) (by unfold maxLen;omega) (by omega) (by simp;omega) ?_;intro v' w1 h d _)
  obtain⟨U,hb⟩:=E.out.appended P.out O h d;clear h d;have A:=qh U;clear U;have Q:=qh hb;clear hb;have u:k=t.size:=by omega
  have G:=qh u;clear u;go_wp2;go_roundw
  case rel =>
   have C:=B.out.step c p.out W;rw[G.out] at A;refine⟨_,_,rfl,?_,A.out,Q.out⟩;have N:=p.out
   first
    | (rw[<- N];exact C)
    | (
      have e:c=0:=by omega
      have Z:t.extract 0 c=ByteArray.empty:=by rw[e];simp
      rw[<- Z];exact C)
  simp only[x2t,ByteArray.size_extract,ByteArray.size_empty];omega
end
section
open Go.RowKit
def z0m (F:Nat->Nat->Nat->Nat × Nat) (xs ys:List Nat):Nat->List Nat × Nat
 | 0=>([],0)
 | k+1=>((z0m F xs ys k).1++[(F (nth xs k) (nth ys k) (z0m F xs ys k).2).1],(F (nth xs k) (nth ys k) (z0m F xs ys k).2).2)
theorem z1c (F:Nat->Nat->Nat->Nat × Nat) (xs c:List Nat) (k:Nat):(z0m F xs c k).1.length=k:=by
 induction k with
 | zero=>rfl
 | succ k ih=>simp[z0m,ih]
def StepOk (F:Nat->Nat->Nat->Nat × Nat) (M:Nat):Prop:=∀ a b c,a<BB->b<BB->c<=M->(F a b c).1<BB/\(F a b c).2<=M
theorem z6a {F:Nat->Nat->Nat->Nat × Nat} {M:Nat} (d:StepOk F M) {xs c:List Nat} (g:Small xs) (h:Small c) (k:Nat):Small (z0m F xs c k).1/\(z0m F xs c k).2<=M:=by
 induction k with
 | zero=>exact⟨z7r,Nat.zero_le _⟩
 | succ k ih=>exact⟨z8n ih.1 (d _ _ _ (g k) (h k) ih.2).1,(d _ _ _ (g k) (h k) ih.2).2⟩
def ClosOk (g:FuncId) (caps:Array Value) (F:Nat->Nat->Nat->Nat × Nat) (M:Nat) (w:World):Prop :=
 ∀ (a b c:Nat) (wr:World),Below w.heap.size w wr->a<BB->b<BB->c<=M ->
  Calls prog g (#[.int .u64 (a:Int),.int .u64 (b:Int),.int .u64 (c:Int)]++caps) wr fun e w'=>e=.returned (.tuple #[.int .u64 ((F a b c).1:Nat),.int .u64 ((F a b c).2:Nat)])/\wr=w'
def EachEnd (n:Nat) (w:World) (e:Ending) (w':World):Prop:=∃ v,e=.returned v/\Own w' w.heap.size 179 .u64 v (toB n)/\Below w.heap.size w w'
theorem u0x (g:FuncId) (Y:Array Value) (F:Nat->Nat->Nat->Nat × Nat) (M:Nat) (vx vy:Value) (xs d:List Nat) (w:World)
  (he:∀ args w,(callFunc g args).run prog w=.ok (.enter g args) w) (hF:StepOk F M) (b2:ClosOk g Y F M w)
  (b5:xs.length<d.length) (hx:Sl w .u64 vx xs) (hy:Sl w .u64 vy d) (sx:Small xs) (sy:Small d) (ly:d.length<=100000) :
  Calls prog 228 #[vx,vy,.func (.func g) #[] Y] w (EachEnd (bval (z0m F xs d (max xs.length d.length+1)).1) w):=by
 obtain⟨i0,hi,a3,a4,a5⟩:=info_parts y0g;obtain⟨ax,cx,bx,ox,rfl,U,b6,b0,b4,z⟩:=hx.open;obtain⟨ay,cy,a8,oy,rfl,H,b7,b1,a9,s⟩:=hy.open;unfold maxLen at b0 b1;have a2:=qh b2;clear b2 hx hy
 go_enter func228,ntmps228
 go_wp2
 go_loopw [7,8,19] (fun v c i wr=>∃ k:Nat,k<=max xs.length d.length+1/\i=.int .i64 k/\c=.int .u64 ((z0m F xs d k).2:Nat)/\Own wr w.heap.size 179 .u64 v (z0m F xs d k).1/\Below w.heap.size w wr)
  (fun _ _ i _=>max xs.length d.length+1-(intOf i).toNat)
 case atStart=>exact⟨0,Nat.zero_le _,rfl,rfl,Own.nil _ _ _ _,blr⟩
 obtain⟨k,hk,rfl,rfl,E,hb⟩:=hrel;obtain⟨W,C,rfl⟩:=E.shape;rw[z1c] at E;rw[z1c];have HO:=qh E;clear E;have Q:=qh hb;clear hb;have Z:=Q.out.size;by_cases b8:k<max xs.length d.length+1
 ·have S:=z6a hF sx sy k;have a1:=qh S;clear S;have a6:Hid (wr.ownsRow w.heap.size 179 1 (.slice W k C) k (vals .u64 (z0m F xs d k).1)):=qh (by have:=HO.out.raw;rw[z1c] at this;exact this)
  rcases Nat.lt_or_ge k d.length with R|R
  rcases Nat.lt_or_ge k xs.length with T|T
  rotate_left 2
  obtain T:xs.length<=k:=by omega
  rotate_left 1
  ·-- 1 1
   obtain rfl:=U (Nat.lt_of_le_of_lt (Nat.zero_le _) T);have c1:=(Q.out.cell (p:=⟨bx,ox+k,none⟩) (b4 (Nat.lt_of_le_of_lt (Nat.zero_le _) T))).trans (z k T);obtain rfl:=H (Nat.lt_of_le_of_lt (Nat.zero_le _) R);have c2:=(Q.out.cell (p:=⟨a8,oy+k,none⟩) (a9 (Nat.lt_of_le_of_lt (Nat.zero_le _) R))).trans (s k R);have j:=a2.out (nth xs k) (nth d k) (z0m F xs d k).2 wr Q.out (sx k) (sy k) a1.out.2;have B:Own wr w.heap.size 179 .u64 (.slice W k C) (z0m F xs d k).1->∀ (D:Value) (A:World) (o:Obj),A.ownsRow w.heap.size 179 1 D (k+1) (vals .u64 (z0m F xs d k).1++[.int .u64 ((F (nth xs k) (nth d k) (z0m F xs d k).2).1:Nat)])->(wr.alloc o).grownBy A (Value.slice W k C).ownBlock->Own A w.heap.size 179 .u64 D (z0m F xs d (k+1)).1/\Below w.heap.size w A:=fun L D A o N O=>by
    have:=L.appended Q.out Z (by rw[z1c];exact N) O;simp only[z0m];exact this
   have u:(z0m F xs d (k+1)).2=(F (nth xs k) (nth d k) (z0m F xs d k).2).2:=by simp only[z0m]
   have K:=qh j;clear j;have I:=qh B;clear B;have G:=qh u;clear u;clear U H z s
   go_wp2_with fail
   refine K.out.mono ?_;rintro e w' ⟨rfl,rfl⟩
   go_wp2_with (at_builtin;refine wpList_append_own _ rfl (.tmp 46) (.tmp 48) 199 rfl w.heap.size 179 i0 (.int .u64 0) 1 8 underlying199 hi a3 a4 a5 rfl (by decide) _ _ _ rfl (World.ownsRow.alloc a6.out _) ⟨wr.heap.size,0,none⟩ 1 1 [.int .u64 ((F (nth xs k) (nth d k) (z0m F xs d k).2).1:Nat)] rfl rfl (cell_one_new _ _ _) (one_cell _ _) (by unfold maxLen;omega) (by omega) (by simp;omega) ?_;intro D A l h _)
   obtain⟨X,hb⟩:=I.out HO.out D A _ l h;clear l h;have J:=qh X;clear X;have P:=qh hb;clear hb;go_wp2;go_roundw
   case rel=>exact⟨k+1,by omega,by go_num,by rw[G.out],J.out,P.out⟩
   simp[intOf];omega
  ·-- 0 1
   obtain rfl:=H (Nat.lt_of_le_of_lt (Nat.zero_le _) R);have c2:=(Q.out.cell (p:=⟨a8,oy+k,none⟩) (a9 (Nat.lt_of_le_of_lt (Nat.zero_le _) R))).trans (s k R);have j:=a2.out 0 (nth d k) (z0m F xs d k).2 wr Q.out z1w (sy k) a1.out.2;have B:Own wr w.heap.size 179 .u64 (.slice W k C) (z0m F xs d k).1->∀ (D:Value) (A:World) (o:Obj),A.ownsRow w.heap.size 179 1 D (k+1) (vals .u64 (z0m F xs d k).1++[.int .u64 ((F 0 (nth d k) (z0m F xs d k).2).1:Nat)])->(wr.alloc o).grownBy A (Value.slice W k C).ownBlock->Own A w.heap.size 179 .u64 D (z0m F xs d (k+1)).1/\Below w.heap.size w A:=fun L D A o N O=>by
    have:=L.appended Q.out Z (by rw[z1c];exact N) O;simp only[z0m];rw[z1q xs k T];exact this
   have u:(z0m F xs d (k+1)).2=(F 0 (nth d k) (z0m F xs d k).2).2:=by simp only[z0m];rw[z1q xs k T]
   have K:=qh j;clear j;have I:=qh B;clear B;have G:=qh u;clear u;clear U H z s
   go_wp2_with fail
   refine K.out.mono ?_;rintro e w' ⟨rfl,rfl⟩
   go_wp2_with (at_builtin;refine wpList_append_own _ rfl (.tmp 46) (.tmp 48) 199 rfl w.heap.size 179 i0 (.int .u64 0) 1 8 underlying199 hi a3 a4 a5 rfl (by decide) _ _ _ rfl (World.ownsRow.alloc a6.out _) ⟨wr.heap.size,0,none⟩ 1 1 [.int .u64 ((F 0 (nth d k) (z0m F xs d k).2).1:Nat)] rfl rfl (cell_one_new _ _ _) (one_cell _ _) (by unfold maxLen;omega) (by omega) (by simp;omega) ?_;intro D A l h _)
   obtain⟨X,hb⟩:=I.out HO.out D A _ l h;clear l h;have J:=qh X;clear X;have P:=qh hb;clear hb;go_wp2;go_roundw
   case rel=>exact⟨k+1,by omega,by go_num,by rw[G.out],J.out,P.out⟩
   simp[intOf];omega
  have j:=a2.out 0 0 (z0m F xs d k).2 wr Q.out z1w z1w a1.out.2;have B:Own wr w.heap.size 179 .u64 (.slice W k C) (z0m F xs d k).1->∀ (D:Value) (A:World) (o:Obj),A.ownsRow w.heap.size 179 1 D (k+1) (vals .u64 (z0m F xs d k).1++[.int .u64 ((F 0 0 (z0m F xs d k).2).1:Nat)])->(wr.alloc o).grownBy A (Value.slice W k C).ownBlock->Own A w.heap.size 179 .u64 D (z0m F xs d (k+1)).1/\Below w.heap.size w A:=fun L D A o N O=>by
   have:=L.appended Q.out Z (by rw[z1c];exact N) O;simp only[z0m];rw[z1q xs k T,z1q d k R];exact this
  have u:(z0m F xs d (k+1)).2=(F 0 0 (z0m F xs d k).2).2:=by simp only[z0m];rw[z1q xs k T,z1q d k R]
  have K:=qh j;clear j;have I:=qh B;clear B;have G:=qh u;clear u;clear U H z s
  go_wp2_with fail
  refine K.out.mono ?_;rintro e w' ⟨rfl,rfl⟩
  go_wp2_with (at_builtin;refine wpList_append_own _ rfl (.tmp 46) (.tmp 48) 199 rfl w.heap.size 179 i0 (.int .u64 0) 1 8 underlying199 hi a3 a4 a5 rfl (by decide) _ _ _ rfl (World.ownsRow.alloc a6.out _) ⟨wr.heap.size,0,none⟩ 1 1 [.int .u64 ((F 0 0 (z0m F xs d k).2).1:Nat)] rfl rfl (cell_one_new _ _ _) (one_cell _ _) (by unfold maxLen;omega) (by omega) (by simp;omega) ?_;intro D A l h _)
  obtain⟨X,hb⟩:=I.out HO.out D A _ l h;clear l h;have J:=qh X;clear X;have P:=qh hb;clear hb;go_wp2;go_roundw
  case rel=>exact⟨k+1,by omega,by go_num,by rw[G.out],J.out,P.out⟩
  simp[intOf];omega
 go_wp2_with fail
 have a7:k=max xs.length d.length+1:=by omega
 have ht:=z7d W C (z0m F xs d k).1 wr (by rw[z1c];exact HO.out.sl);rw[z1c] at ht;refine ht.mono ?_;rintro e w' ⟨m,hm,rfl,rfl⟩;have HM:=qh hm;clear hm;have b3:=qh a7;clear a7;go_wp2;go_ret;have S:=z6a hF sx sy k;refine⟨_,rfl,?_,Q.out⟩;rw[<- b3.out,<- z4i S.1 HM.out.1 HM.out.2.1 HM.out.2.2];exact HO.out.take HM.out.1
theorem u0f (g:FuncId) (Y:Array Value) (F:Nat->Nat->Nat->Nat × Nat) (M:Nat) (vx vy:Value) (xs d:List Nat) (w:World)
  (he:∀ args w,(callFunc g args).run prog w=.ok (.enter g args) w) (hF:StepOk F M) (b1:ClosOk g Y F M w)
  (b5:d.length<=xs.length) (hx:Sl w .u64 vx xs) (hy:Sl w .u64 vy d) (sx:Small xs) (sy:Small d) (lx:xs.length<=100000) :
  Calls prog 228 #[vx,vy,.func (.func g) #[] Y] w (EachEnd (bval (z0m F xs d (max xs.length d.length+1)).1) w):=by
 obtain⟨i0,hi,a3,a4,a5⟩:=info_parts y0g;obtain⟨ax,cx,bx,ox,rfl,O,b6,a8,a9,s⟩:=hx.open;obtain⟨ay,cy,b3,oy,rfl,R,b7,b0,b4,z⟩:=hy.open;unfold maxLen at a8 b0;have a2:=qh b1;clear b1 hx hy
 go_enter func228,ntmps228
 go_wp2
 go_loopw [7,8,19] (fun v c i wr=>∃ k:Nat,k<=max xs.length d.length+1/\i=.int .i64 k/\c=.int .u64 ((z0m F xs d k).2:Nat)/\Own wr w.heap.size 179 .u64 v (z0m F xs d k).1/\Below w.heap.size w wr)
  (fun _ _ i _=>max xs.length d.length+1-(intOf i).toNat)
 case atStart=>exact⟨0,Nat.zero_le _,rfl,rfl,Own.nil _ _ _ _,blr⟩
 obtain⟨k,hk,rfl,rfl,E,hb⟩:=hrel;obtain⟨W,C,rfl⟩:=E.shape;rw[z1c] at E;rw[z1c];have HO:=qh E;clear E;have Q:=qh hb;clear hb;have Z:=Q.out.size;by_cases b8:k<max xs.length d.length+1
 ·have T:=z6a hF sx sy k;have a1:=qh T;clear T;have a6:Hid (wr.ownsRow w.heap.size 179 1 (.slice W k C) k (vals .u64 (z0m F xs d k).1)):=qh (by have:=HO.out.raw;rw[z1c] at this;exact this)
  rcases Nat.lt_or_ge k xs.length with U|U
  rcases Nat.lt_or_ge k d.length with S|S
  rotate_left 2
  obtain S:d.length<=k:=by omega
  rotate_left 1
  ·-- 1 1
   obtain rfl:=O (Nat.lt_of_le_of_lt (Nat.zero_le _) U);have c1:=(Q.out.cell (p:=⟨bx,ox+k,none⟩) (a9 (Nat.lt_of_le_of_lt (Nat.zero_le _) U))).trans (s k U);obtain rfl:=R (Nat.lt_of_le_of_lt (Nat.zero_le _) S);have c2:=(Q.out.cell (p:=⟨b3,oy+k,none⟩) (b4 (Nat.lt_of_le_of_lt (Nat.zero_le _) S))).trans (z k S);have j:=a2.out (nth xs k) (nth d k) (z0m F xs d k).2 wr Q.out (sx k) (sy k) a1.out.2;have B:Own wr w.heap.size 179 .u64 (.slice W k C) (z0m F xs d k).1->∀ (D:Value) (A:World) (o:Obj),A.ownsRow w.heap.size 179 1 D (k+1) (vals .u64 (z0m F xs d k).1++[.int .u64 ((F (nth xs k) (nth d k) (z0m F xs d k).2).1:Nat)])->(wr.alloc o).grownBy A (Value.slice W k C).ownBlock->Own A w.heap.size 179 .u64 D (z0m F xs d (k+1)).1/\Below w.heap.size w A:=fun K D A o L N=>by
    have:=K.appended Q.out Z (by rw[z1c];exact L) N;simp only[z0m];exact this
   have u:(z0m F xs d (k+1)).2=(F (nth xs k) (nth d k) (z0m F xs d k).2).2:=by simp only[z0m]
   have J:=qh j;clear j;have H:=qh B;clear B;have G:=qh u;clear u;clear O R s z
   go_wp2_with fail
   refine J.out.mono ?_;rintro e w' ⟨rfl,rfl⟩
   go_wp2_with (at_builtin;refine wpList_append_own _ rfl (.tmp 46) (.tmp 48) 199 rfl w.heap.size 179 i0 (.int .u64 0) 1 8 underlying199 hi a3 a4 a5 rfl (by decide) _ _ _ rfl (World.ownsRow.alloc a6.out _) ⟨wr.heap.size,0,none⟩ 1 1 [.int .u64 ((F (nth xs k) (nth d k) (z0m F xs d k).2).1:Nat)] rfl rfl (cell_one_new _ _ _) (one_cell _ _) (by unfold maxLen;omega) (by omega) (by simp;omega) ?_;intro D A l h _)
   obtain⟨X,hb⟩:=H.out HO.out D A _ l h;clear l h;have I:=qh X;clear X;have P:=qh hb;clear hb;go_wp2;go_roundw
   case rel=>exact⟨k+1,by omega,by go_num,by rw[G.out],I.out,P.out⟩
   simp[intOf];omega
  ·-- 1 0
   obtain rfl:=O (Nat.lt_of_le_of_lt (Nat.zero_le _) U);have c1:=(Q.out.cell (p:=⟨bx,ox+k,none⟩) (a9 (Nat.lt_of_le_of_lt (Nat.zero_le _) U))).trans (s k U);have j:=a2.out (nth xs k) 0 (z0m F xs d k).2 wr Q.out (sx k) z1w a1.out.2;have B:Own wr w.heap.size 179 .u64 (.slice W k C) (z0m F xs d k).1->∀ (D:Value) (A:World) (o:Obj),A.ownsRow w.heap.size 179 1 D (k+1) (vals .u64 (z0m F xs d k).1++[.int .u64 ((F (nth xs k) 0 (z0m F xs d k).2).1:Nat)])->(wr.alloc o).grownBy A (Value.slice W k C).ownBlock->Own A w.heap.size 179 .u64 D (z0m F xs d (k+1)).1/\Below w.heap.size w A:=fun K D A o L N=>by
    have:=K.appended Q.out Z (by rw[z1c];exact L) N;simp only[z0m];rw[z1q d k S];exact this
   have u:(z0m F xs d (k+1)).2=(F (nth xs k) 0 (z0m F xs d k).2).2:=by simp only[z0m];rw[z1q d k S]
   have J:=qh j;clear j;have H:=qh B;clear B;have G:=qh u;clear u;clear O R s z
   go_wp2_with fail
   refine J.out.mono ?_;rintro e w' ⟨rfl,rfl⟩
   go_wp2_with (at_builtin;refine wpList_append_own _ rfl (.tmp 46) (.tmp 48) 199 rfl w.heap.size 179 i0 (.int .u64 0) 1 8 underlying199 hi a3 a4 a5 rfl (by decide) _ _ _ rfl (World.ownsRow.alloc a6.out _) ⟨wr.heap.size,0,none⟩ 1 1 [.int .u64 ((F (nth xs k) 0 (z0m F xs d k).2).1:Nat)] rfl rfl (cell_one_new _ _ _) (one_cell _ _) (by unfold maxLen;omega) (by omega) (by simp;omega) ?_;intro D A l h _)
   obtain⟨X,hb⟩:=H.out HO.out D A _ l h;clear l h;have I:=qh X;clear X;have P:=qh hb;clear hb;go_wp2;go_roundw
   case rel=>exact⟨k+1,by omega,by go_num,by rw[G.out],I.out,P.out⟩
   simp[intOf];omega
  have j:=a2.out 0 0 (z0m F xs d k).2 wr Q.out z1w z1w a1.out.2;have B:Own wr w.heap.size 179 .u64 (.slice W k C) (z0m F xs d k).1->∀ (D:Value) (A:World) (o:Obj),A.ownsRow w.heap.size 179 1 D (k+1) (vals .u64 (z0m F xs d k).1++[.int .u64 ((F 0 0 (z0m F xs d k).2).1:Nat)])->(wr.alloc o).grownBy A (Value.slice W k C).ownBlock->Own A w.heap.size 179 .u64 D (z0m F xs d (k+1)).1/\Below w.heap.size w A:=fun K D A o L N=>by
   have:=K.appended Q.out Z (by rw[z1c];exact L) N;simp only[z0m];rw[z1q xs k U,z1q d k S];exact this
  have u:(z0m F xs d (k+1)).2=(F 0 0 (z0m F xs d k).2).2:=by simp only[z0m];rw[z1q xs k U,z1q d k S]
  have J:=qh j;clear j;have H:=qh B;clear B;have G:=qh u;clear u;clear O R s z
  go_wp2_with fail
  refine J.out.mono ?_;rintro e w' ⟨rfl,rfl⟩
  go_wp2_with (at_builtin;refine wpList_append_own _ rfl (.tmp 46) (.tmp 48) 199 rfl w.heap.size 179 i0 (.int .u64 0) 1 8 underlying199 hi a3 a4 a5 rfl (by decide) _ _ _ rfl (World.ownsRow.alloc a6.out _) ⟨wr.heap.size,0,none⟩ 1 1 [.int .u64 ((F 0 0 (z0m F xs d k).2).1:Nat)] rfl rfl (cell_one_new _ _ _) (one_cell _ _) (by unfold maxLen;omega) (by omega) (by simp;omega) ?_;intro D A l h _)
  obtain⟨X,hb⟩:=H.out HO.out D A _ l h;clear l h;have I:=qh X;clear X;have P:=qh hb;clear hb;go_wp2;go_roundw
  case rel=>exact⟨k+1,by omega,by go_num,by rw[G.out],I.out,P.out⟩
  simp[intOf];omega
 go_wp2_with fail
 have a7:k=max xs.length d.length+1:=by omega
 have ht:=z7d W C (z0m F xs d k).1 wr (by rw[z1c];exact HO.out.sl);rw[z1c] at ht;refine ht.mono ?_;rintro e w' ⟨m,hm,rfl,rfl⟩;have HM:=qh hm;clear hm;have b2:=qh a7;clear a7;go_wp2;go_ret;have T:=z6a hF sx sy k;refine⟨_,rfl,?_,Q.out⟩;rw[<- b2.out,<- z4i T.1 HM.out.1 HM.out.2.1 HM.out.2.2];exact HO.out.take HM.out.1
theorem y7v (g:FuncId) (c:Array Value) (F:Nat->Nat->Nat->Nat × Nat) (M:Nat) (j k:Value) (xs h:List Nat) (w:World)
  (u:∀ args w,(callFunc g args).run prog w=.ok (.enter g args) w) (o:StepOk F M) (i:ClosOk g c F M w)
  (m:Sl w .u64 j xs) (l:Sl w .u64 k h) (s:Small xs) (p:Small h) (A:xs.length<=100000) (z:h.length<=100000) :
  Calls prog 228 #[j,k,.func (.func g) #[] c] w (EachEnd (bval (z0m F xs h (max xs.length h.length+1)).1) w):=by
 rcases Nat.lt_or_ge xs.length h.length with d|d
 ·exact u0x g c F M j k xs h w u o i d m l s p z
 exact u0f g c F M j k xs h w u o i d m l s p A
end
section
open Go.RowKit
def z6y (a b c:Nat):Nat × Nat:=((a+b+c) % 1000000000,(a+b+c) / 1000000000)
def z4e (a b c:Nat):Nat × Nat:=((a+1000000000-b-c) % 1000000000,1-(a+1000000000-b-c) / 1000000000)
def z2t (k:Nat) (a _b c:Nat):Nat × Nat:=((a*k+c) % 1000000000,(a*k+c) / 1000000000)
theorem v8m:StepOk z6y 1:=fun a b c d hb g=>by
 rw[z0r] at *;simp only[z6y];omega
theorem x1y:StepOk z4e 1:=fun a b c d hb g=>by
 rw[z0r] at *;simp only[z4e];omega
theorem x0t {a k c:Nat} (g:a<BB) (d:k<BB) (h:c<BB):a*k+c<1000000000*1000000000:=by
 rw[z0r] at *;have:a*k<=999999999*999999999:=Nat.mul_le_mul (by omega) (by omega);omega
theorem x3r {k:Nat} (g:k<BB):StepOk (z2t k) 999999999:=fun a b c d hb h=>by
 have:=x0t d g (show c<BB by rw[z0r];omega);simp only[z2t,z0r];exact⟨Nat.mod_lt _ (by omega),by omega⟩
theorem v6s (w:World):ClosOk 229 #[] z6y 1 w:=fun a b c wr _ d hb g=>by
 rw[z0r] at d hb;simp only[z6y]
 go_enter func229,ntmps229
 go_wp2;go_ret2;exact⟨rfl,rfl⟩
theorem x8t (w:World):ClosOk 236 #[] z4e 1 w:=fun a b c wr _ d hb g=>by
 rw[z0r] at d hb;simp only[z4e]
 go_enter func236,ntmps236
 go_wp2;go_ret2;exact⟨v5b (by omega) (by omega),rfl⟩
theorem x5y (k bx:Nat) (w:World) (l:k<BB) (d:bx<w.heap.size) (h:w.cell? ⟨bx,0,none⟩=some (.int .u64 (k:Int))) :
  ClosOk 248 #[.pointer (some ⟨bx,0,none⟩)] (z2t k) 999999999 w:=fun a b c wr hb j _ s=>by
 have o:=x0t j l (show c<BB by rw[z0r];omega);have g:=(hb.cell (p:=⟨bx,0,none⟩) d).trans h;have m:0<=(a:Int)*(k:Int):=Int.mul_nonneg (Int.natCast_nonneg _) (Int.natCast_nonneg _);have i:(a:Int)*(k:Int)+(c:Int)<1000000000000000000:=by rw[<- Int.natCast_mul];omega
 clear h o;simp only[z2t]
 go_enter func248,ntmps248
 go_wp2;go_ret2;exact⟨rfl,rfl⟩
theorem z2p {xs:List Nat} {k:Nat} (h:xs.length<=k):xs.take k=xs:=List.take_of_length_le h
theorem x7g (xs d:List Nat) (k:Nat):bval (z0m z6y xs d k).1+BB ^ k*(z0m z6y xs d k).2=bval (xs.take k)+bval (d.take k):=by
 induction k with
 | zero=>simp[z0m,bval]
 | succ k ih =>
  simp only[z0m];rw[z6g,z1c,z0k,z0k,Nat.pow_succ];generalize (z0m z6y xs d k).2=c at *;generalize bval (z0m z6y xs d k).1=l at *;generalize nth xs k=a;generalize nth d k=b;have h:(z6y a b c).1+BB*(z6y a b c).2=a+b+c:=by simp only[z6y,z0r];omega
  have g:BB ^ k*(a+b+c)=BB ^ k*(z6y a b c).1+BB ^ k*BB*(z6y a b c).2:=by rw[<- h,Nat.mul_add,<- Nat.mul_assoc]
  rw[Nat.mul_add,Nat.mul_add] at g;omega
theorem y5e (F:Nat->Nat->Nat->Nat × Nat) (xs c:List Nat) (k:Nat):(z0m F xs c (k+1)).2=(F (nth xs k) (nth c k) (z0m F xs c k).2).2:=rfl
theorem x1e {c:Nat} (h:c<=1):(z6y 0 0 c).2=0:=by simp only[z6y];omega
theorem x9y (xs c:List Nat) (j:Small xs) (i:Small c) (n:Nat) (d:xs.length<=n) (g:c.length<=n):bval (z0m z6y xs c (n+1)).1=bval xs+bval c:=by
 have h:=x7g xs c (n+1);rw[z2p (Nat.le_succ_of_le d),z2p (Nat.le_succ_of_le g)] at h;have k:(z0m z6y xs c (n+1)).2=0:=by
  rw[y5e,z1q xs _ d,z1q c _ g];exact x1e (z6a v8m j i n).2
 rw[k,Nat.mul_zero,Nat.add_zero] at h;exact h
theorem v4t (xs c:List Nat) (d:Small xs) (g:Small c):bval (z0m z6y xs c (max xs.length c.length+1)).1=bval xs+bval c :=
 x9y xs c d g _ (Nat.le_max_left _ _) (Nat.le_max_right _ _)
theorem x1u (xs d:List Nat) (i:Small xs) (g:Small d) (k:Nat):bval (z0m z4e xs d k).1+bval (d.take k)=bval (xs.take k)+BB ^ k*(z0m z4e xs d k).2:=by
 induction k with
 | zero=>simp[z0m,bval]
 | succ k ih =>
  have o:=(z6a x1y i g k).2;have m:=i k;have hb:=g k;simp only[z0m];rw[z6g,z1c,z0k,z0k,Nat.pow_succ];generalize (z0m z4e xs d k).2=c at *;generalize bval (z0m z4e xs d k).1=l at *;generalize nth xs k=a at *;generalize nth d k=b at *;have h:(z4e a b c).1+b+c=a+BB*(z4e a b c).2:=by rw[z0r] at *;simp only[z4e];omega
  have j:BB ^ k*((z4e a b c).1+b+c)=BB ^ k*a+BB ^ k*BB*(z4e a b c).2:=by rw[h,Nat.mul_add,<- Nat.mul_assoc]
  rw[Nat.mul_add,Nat.mul_add] at j;omega
theorem x5w (xs d:List Nat) (k:Small xs) (j:Small d) (s:bval d<=bval xs) (n:Nat) (o:xs.length<=n) (p:d.length<=n):bval (z0m z4e xs d n).1=bval xs-bval d:=by
 have h:=x1u xs d k j n;rw[z2p o,z2p p] at h;have g:=z6a x1y k j n;have i:=z3s g.1;rw[z1c] at i;generalize bval (z0m z4e xs d n).1=l at *;generalize (z0m z4e xs d n).2=c at *
 rcases Nat.eq_zero_or_pos c with m|m
 ·subst m;rw[Nat.mul_zero,Nat.add_zero] at h;omega
 have:c=1:=by have:=g.2;omega
 subst this;rw[Nat.mul_one] at h;omega
theorem v1f (xs c:List Nat) (g:Small xs) (h:Small c) (d:bval c<=bval xs):bval (z0m z4e xs c (max xs.length c.length+1)).1=bval xs-bval c :=
 x5w xs c g h d _ (Nat.le_succ_of_le (Nat.le_max_left _ _)) (Nat.le_succ_of_le (Nat.le_max_right _ _))
theorem y9z (m:Nat) (xs:List Nat) (k:Nat):bval (z0m (z2t m) xs [] k).1+BB ^ k*(z0m (z2t m) xs [] k).2=bval (xs.take k)*m:=by
 induction k with
 | zero=>simp[z0m,bval]
 | succ k ih =>
  simp only[z0m];rw[z6g,z1c,z0k,Nat.pow_succ,Nat.add_mul,Nat.mul_assoc (BB ^ k) (nth xs k) m];generalize (z0m (z2t m) xs [] k).2=c at *;generalize bval (z0m (z2t m) xs [] k).1=l at *;generalize nth xs k=a;have h:(z2t m a (nth [] k) c).1+BB*(z2t m a (nth [] k) c).2=a*m+c:=by simp only[z2t,z0r];omega
  have d:BB ^ k*(a*m+c)=BB ^ k*(z2t m a (nth [] k) c).1+BB ^ k*BB*(z2t m a (nth [] k) c).2:=by rw[<- h,Nat.mul_add,<- Nat.mul_assoc]
  rw[Nat.mul_add] at d;omega
theorem x6x {m:Nat} (c:m<BB) (xs:List Nat) (g:Small xs):bval (z0m (z2t m) xs [] (max xs.length ([]:List Nat).length+1)).1=bval xs*m:=by
 have h:=y9z m xs (max xs.length ([]:List Nat).length+1);rw[z2p (by omega)] at h;have d:(z0m (z2t m) xs [] (max xs.length ([]:List Nat).length+1)).2=0:=by
  have:=(z6a (x3r c) g z7r (max xs.length ([]:List Nat).length)).2;simp only[z0m,z2t];rw[z1q xs _ (by omega),Nat.zero_mul,Nat.zero_add];exact Nat.div_eq_of_lt (by omega)
 rw[d] at h;simpa using h
theorem EachEnd.of {n:Nat} {w:World} {e:Ending} {c:World} (h:EachEnd n w e c):∃ v,e=.returned v/\Own c w.heap.size 179 .u64 v (toB n)/\Below w.heap.size w c:=h
theorem enter46:∀ args w,(callFunc 229 args).run prog w=.ok (.enter 229 args) w:=fun args w=>by kernel_rfl
theorem enter52:∀ args w,(callFunc 236 args).run prog w=.ok (.enter 236 args) w:=fun args w=>by kernel_rfl
theorem enter63:∀ args w,(callFunc 248 args).run prog w=.ok (.enter 248 args) w:=fun args w=>by kernel_rfl
theorem v3p (d c:Value) (m n:Nat) (w:World) (j:Sl w .u64 d (toB m)) (h:Sl w .u64 c (toB n)) (p:(toB m).length<=100000) (o:(toB n).length<=100000) :
  Calls prog 219 #[d,c] w (EachEnd (m+n) w):=by
 have g:=y7v 229 #[] z6y 1 d c (toB m) (toB n) w enter46 v8m (v6s w) j h (z0x m) (z0x n) p o;rw[v4t _ _ (z0x m) (z0x n),z1a,z1a] at g;have k:=qh g;clear g j h
 go_enter func219,ntmps219
 go_wp2_with fail
 refine k.out.mono ?_;rintro e s ⟨v,rfl,i⟩;have l:=qh i;clear i;go_wp2;go_ret;exact⟨v,rfl,l.out⟩
theorem v2x (d c:Value) (m n:Nat) (w:World) (k:Sl w .u64 d (toB m)) (i:Sl w .u64 c (toB n)) (s:(toB m).length<=100000) (p:(toB n).length<=100000) (h:n<=m) :
  Calls prog 222 #[d,c] w (EachEnd (m-n) w):=by
 have g:=y7v 236 #[] z4e 1 d c (toB m) (toB n) w enter52 x1y (x8t w) k i (z0x m) (z0x n) s p;rw[v1f _ _ (z0x m) (z0x n) (by rw[z1a,z1a];exact h),z1a,z1a] at g;have l:=qh g;clear g k i
 go_enter func222,ntmps222
 go_wp2_with fail
 refine l.out.mono ?_;rintro e u ⟨v,rfl,j⟩;have o:=qh j;clear j;go_wp2;go_ret;exact⟨v,rfl,o.out⟩
theorem y6c (d:Value) (m k:Nat) (w:World) (h:k<BB) (l:Sl w .u64 d (toB m)) (s:(toB m).length<=100000) :
  Calls prog 237 #[d,.int .u64 (k:Int)] w (EachEnd (m*k) w):=by
 have c:Below w.heap.size w (w.alloc (.cells #[.int .u64 (k:Int)] 179)):=blr.alloc nlr _;have g:=y7v 248 #[.pointer (some ⟨w.heap.size,0,none⟩)] (z2t k) 999999999 d (.slice none 0 0) (toB m) [] (w.alloc (.cells #[.int .u64 (k:Int)] 179)) enter63 (x3r h)
  (x5y k w.heap.size _ h (by simp) (by simp)) (l.below c nlr) (Sl.nil _ _) (z0x m) z7r s (by simp)
 rw[x6x h _ (z0x m),z1a] at g;have p:=qh g;clear g l;have i:=qh c;clear c
 go_enter func237,ntmps237
 go_wp2_with fail
 refine p.out.mono ?_;rintro e u ⟨v,rfl,j⟩;have o:=qh j;clear j;go_wp2;go_ret;exact⟨v,rfl,o.out.1.mono (by simp),i.out.trans (o.out.2.mono (by simp))⟩
end
end Go.Proofs.YteappjogmnogcaaGreatDoor
