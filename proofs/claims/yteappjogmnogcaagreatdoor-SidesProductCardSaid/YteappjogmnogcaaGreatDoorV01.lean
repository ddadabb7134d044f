/- Parts of a proof: MB. -/
import Derived.Test.YteappjogmnogcaaGreatDoorV00
namespace Go.Proofs.YteappjogmnogcaaGreatDoor
set_option maxRecDepth 100000
set_option linter.unusedSimpArgs false
set_option linter.unusedVariables false
set_option linter.unusedSectionVars false
set_option maxHeartbeats 16000000
open Go Tryz
section
open Go.RowKit
def Trimmed (xs:List Nat) (k:Nat):Prop:=k<=xs.length/\(∀ j,k<=j->nth xs j=0)/\(k=0\/nth xs (k-1)≠0)
def TrimEnd (a:Option Addr) (cap:Nat) (xs:List Nat) (w:World) (e:Ending) (w':World):Prop:=∃ k,Trimmed xs k/\e=.returned (.slice a k cap)/\w=w'
theorem z6w (a:Option Addr) (cap:Nat) (xs:List Nat) (w:World) (h:Sl w .u64 (.slice a xs.length cap) xs) :
  Calls prog 207 #[.slice a xs.length cap] w (TrimEnd a cap xs w):=by
 rcases h with ⟨g,rfl⟩|⟨b,l,c,g,F,E,B,z⟩
 ·simp only[Value.slice.injEq] at g;obtain⟨rfl,_,rfl⟩:=g
  go_enter func207,ntmps207
  go_wp2
  go_loop [0] (fun v=>v=.slice none 0 0) (fun v=>lenV v)
  case atStart=>exact rfl
  obtain rfl:=hrel;go_wp2;go_ret;exact⟨0,⟨Nat.zero_le _,fun j _=>z1s [] j (Nat.zero_le _),.inl rfl⟩,rfl,rfl⟩
 simp only[Value.slice.injEq,true_and] at g;obtain⟨rfl,rfl⟩:=g;unfold maxLen at B
 go_enter func207,ntmps207
 go_wp2
 go_loop [0] (fun v=>∃ k:Nat,k<=xs.length/\v=.slice (some ⟨b,l,none⟩) k cap/\∀ j,k<=j->nth xs j=0) (fun v=>lenV v)
 case atStart=>exact⟨xs.length,nlr,rfl,fun j u=>z1s xs j u⟩
 obtain⟨k,s,rfl,p⟩:=hrel;have o:=qh p;clear p;by_cases A:k=0
 ·subst A;go_wp2;go_ret;exact⟨0,⟨s,o.out,.inl rfl⟩,rfl,rfl⟩
 obtain⟨m,rfl⟩:∃ m,k=m+1:=⟨k-1,by omega⟩;have C:=z m (by omega);by_cases i:nth xs m=0
 ·have d:=qh i;clear i;rw[d.out] at C;go_wp2
  go_round
  case rel=>exact⟨m,by omega,rfl,fun j u=>by
   by_cases e:j=m
   ·rw[e];exact d.out
   exact o.out j (by omega)⟩
  simp[lenV]
 have d:=qh i;clear i;have D:(((nth xs m:Nat):Int)==0)=false:=by rw[beq_eq_false_iff_ne];have:=d.out;omega
 go_wp2;go_ret;exact⟨m+1,⟨s,o.out,.inr d.out⟩,rfl,rfl⟩
end
section
theorem u5g:∃ b:Nat,b=1000000000:=⟨_,rfl⟩
noncomputable def BB:Nat:=Classical.choose u5g
theorem z0t:BB=1000000000:=Classical.choose_spec u5g
theorem z1y:0<BB:=by rw[z0t];omega
theorem y6i:1<BB:=by rw[z0t];omega
noncomputable def bval:List Nat->Nat | []=>0|x::xs=>x+BB*bval xs
def Small (xs:List Nat):Prop:=∀ i,nth xs i<BB
theorem z8f:Small []:=fun i=>by rw[z1s _ _ (Nat.zero_le _)];exact z1y
theorem z6y (x:Nat) (xs:List Nat):nth (x::xs) 0=x:=rfl
theorem z5g (x:Nat) (xs:List Nat) (i:Nat):nth (x::xs) (i+1)=nth xs i:=rfl
theorem z4b (xs c:List Nat) (i:Nat) (h:i<xs.length):nth (xs++c) i=nth xs i:=by simp[nth,List.getD_eq_getElem?_getD,List.getElem?_append_left h]
theorem z3i (xs c:List Nat) (i:Nat) (h:xs.length<=i):nth (xs++c) i=nth c (i-xs.length):=by simp[nth,List.getD_eq_getElem?_getD,List.getElem?_append_right h]
theorem y1j {x:Nat} {xs:List Nat}:Small (x::xs)↔x<BB/\Small xs :=
 ⟨fun h=>⟨h 0,fun i=>h (i+1)⟩,fun ⟨d,c⟩ i=>by cases i with
  | zero=>exact d
  | succ i=>exact c i⟩
theorem z8x {x:Nat} {xs:List Nat} (h:Small xs) (c:x<BB):Small (xs++[x]):=fun i=>by
 by_cases d:i<xs.length
 ·rw[z4b _ _ _ d];exact h i
 rw[z3i _ _ _ (by omega)];cases i-xs.length with
 | zero=>exact c
 | succ j=>exact z1y
theorem z4p {xs:List Nat} (h:Small xs) (k:Nat):Small (xs.take k):=fun i=>by
 by_cases c:i<k
 ·rw[z8j _ _ _ c];exact h i
 rw[z1s _ _ (by rw[List.length_take];omega)];exact z1y
theorem z4m (xs c:List Nat):bval (xs++c)=bval xs+BB ^ xs.length*bval c:=by
 induction xs with
 | nil=>simp[bval]
 | cons x xs ih=>simp only[List.cons_append,bval,ih,List.length_cons,Nat.pow_succ];rw[Nat.mul_add,Nat.mul_comm (BB ^ xs.length) BB,Nat.mul_assoc];omega
theorem z6s (xs:List Nat) (x:Nat):bval (xs++[x])=bval xs+BB ^ xs.length*x:=by rw[z4m];simp[bval]
theorem z0n (xs:List Nat) (k:Nat):bval (xs.take (k+1))=bval (xs.take k)+BB ^ k*nth xs k:=by
 by_cases h:k<xs.length
 ·rw[y6q xs k h,z6s,List.length_take,Nat.min_eq_left (by omega)]
 rw[List.take_of_length_le (by omega),List.take_of_length_le (by omega),z1s xs k (by omega)];simp
theorem z3z {xs:List Nat} (h:Small xs):bval xs<BB ^ xs.length:=by
 induction xs with
 | nil=>simp[bval]
 | cons x xs ih =>
  obtain⟨g,d⟩:=y1j.1 h;have:=ih d;simp only[bval,List.length_cons,Nat.pow_succ];have c:BB*(bval xs+1)<=BB*BB ^ xs.length:=Nat.mul_le_mul_left _ this;rw[Nat.mul_comm (BB ^ xs.length)];rw[Nat.mul_add] at c;omega
theorem x0k {xs:List Nat} (h:∀ i,nth xs i=0):bval xs=0:=by
 induction xs with
 | nil=>rfl
 | cons x xs ih=>simp only[bval];rw[ih (fun i=>h (i+1)),show x=0 from h 0];simp
noncomputable def toBf:Nat->Nat->List Nat
 | 0,_=>[]
 | f+1,n=>if n=0 then [] else n % BB::toBf f (n / BB)
noncomputable def toB (n:Nat):List Nat:=toBf n n
theorem u2e:∀ (f g n:Nat),n<=f->n<=g->toBf f n=toBf g n:=by
 intro f
 induction f with
 | zero =>
      intro g n h _;have:n=0:=by omega
      subst this;cases g<;>simp[toBf]
 | succ f ih =>
  intro g n i d;by_cases c:n=0
  ·subst c;cases g<;>simp[toBf]
  cases g with
  | zero=>omega
  | succ g =>
   simp only[toBf,if_neg c];have:n / BB<n:=Nat.div_lt_self (by omega) y6i;rw[ih g (n / BB) (by omega) (by omega)]
theorem y3b:toB 0=[]:=rfl
theorem z9w {n:Nat} (h:n≠0):toB n=n % BB::toB (n / BB):=by
 unfold toB;cases n with
 | zero=>exact absurd rfl h
 | succ n =>
  have:(n+1) / BB<n+1:=Nat.div_lt_self (by omega) y6i;simp only[toBf,if_neg h];rw[u2e n ((n+1) / BB) ((n+1) / BB) (by omega) (by omega)]
theorem z1b (n:Nat):bval (toB n)=n:=by
 induction n using Nat.strongRecOn with
 | ind n ih =>
  by_cases h:n=0
  ·subst h;rfl
  rw[z9w h];simp only[bval];rw[ih (n / BB) (Nat.div_lt_self (by omega) y6i)];exact Nat.mod_add_div n BB
theorem z0x (n:Nat):Small (toB n):=by
 induction n using Nat.strongRecOn with
 | ind n ih =>
  by_cases h:n=0
  ·subst h;exact z8f
  rw[z9w h];exact y1j.2 ⟨Nat.mod_lt _ z1y,ih (n / BB) (Nat.div_lt_self (by omega) y6i)⟩
theorem v7f:∀ {xs:List Nat},Small xs->(xs=[]\/nth xs (xs.length-1)≠0)->toB (bval xs)=xs:=by
 intro xs
 induction xs with
 | nil=>intro _ _;rfl
 | cons x xs ih =>
  intro o l;obtain⟨i,k⟩:=y1j.1 o;have g:nth (x::xs) xs.length≠0:=by
   rcases l with h|h
   ·simp at h
   simpa using h
  have hi:xs=[]\/nth xs (xs.length-1)≠0:=by
   cases xs with
   | nil=>exact .inl rfl
   | cons y ys=>exact .inr (by simpa [z5g] using g)
  have c:=ih k hi;have d:bval (x::xs)≠0:=by
   cases xs with
   | nil =>
        simp only[bval];have:x≠0:=g;omega
   | cons y ys =>
    intro e;simp only[bval] at e;have p:bval (y::ys)=0:=by
     simp only[bval];have:=z1y
     rcases Nat.eq_zero_or_pos (y+BB*bval ys) with h|h
     ·exact h
     have:0<BB*(y+BB*bval ys):=Nat.mul_pos z1y h;omega
    rw[p] at c;simp[y3b] at c
  rw[z9w d];have m:bval (x::xs) % BB=x:=by simp only[bval];rw[Nat.add_mul_mod_self_left,Nat.mod_eq_of_lt i]
  have j:bval (x::xs) / BB=bval xs:=by simp only[bval];rw[Nat.add_mul_div_left _ _ z1y,Nat.div_eq_of_lt i,Nat.zero_add]
  rw[m,j,c]
theorem y9i {n:Nat} (h:n≠0):nth (toB n) ((toB n).length-1)≠0:=by
 induction n using Nat.strongRecOn with
 | ind n ih =>
  rw[z9w h];by_cases c:n / BB=0
  ·rw[c,y3b];show n % BB≠0;have:=Nat.mod_add_div n BB;rw[c] at this;omega
  have:=ih (n / BB) (Nat.div_lt_self (by omega) y6i) c;have d:1<=(toB (n / BB)).length:=by rw[z9w c];simp
  rw[List.length_cons,show (toB (n / BB)).length+1-1=((toB (n / BB)).length-1)+1 by omega,z5g];exact this
theorem y1z {n:Nat} (h:n≠0):1<=(toB n).length:=by rw[z9w h];simp
theorem z6n {n k:Nat} (h:n<BB ^ k):(toB n).length<=k:=by
 induction k generalizing n with
 | zero =>
      have:n=0:=by simp at h;exact h
      subst this;simp[y3b]
 | succ k ih =>
  by_cases c:n=0
  ·subst c;simp[y3b]
  rw[z9w c];have:n / BB<BB ^ k:=Nat.div_lt_of_lt_mul (by rw[Nat.pow_succ,Nat.mul_comm] at h;exact h);have:=ih this;simp;omega
theorem x8b {n:Nat} (h:n≠0):BB ^ ((toB n).length-1)<=n:=by
 have c:=z1b n;have g:=y9i h;have i:=y1z h;have d:=z0n (toB n) ((toB n).length-1);rw[show (toB n).length-1+1=(toB n).length by omega,List.take_length,c] at d;have:BB ^ ((toB n).length-1)*1<=BB ^ ((toB n).length-1)*nth (toB n) ((toB n).length-1):=Nat.mul_le_mul_left _ (by omega);omega
theorem z2j {m n:Nat} (h:m<=n):(toB m).length<=(toB n).length :=
 z6n (Nat.lt_of_le_of_lt h (by have:=z3z (z0x n);rw[z1b] at this;exact this))
theorem y1y {xs:List Nat} {k:Nat} (c:∀ j,k<=j->nth xs j=0):bval (xs.take k)=bval xs:=by
 have h:=z4m (xs.take k) (xs.drop k);rw[List.take_append_drop] at h;rw[h,x0k (xs:=xs.drop k) (fun i=>by
  have:nth (xs.drop k) i=nth xs (k+i):=by simp[nth,List.getD_eq_getElem?_getD]
  rw[this];exact c _ (by omega))]
 simp
theorem z4q {xs:List Nat} {k:Nat} (h:Small xs) (i:k<=xs.length) (d:∀ j,k<=j->nth xs j=0) (c:k=0\/nth xs (k-1)≠0):xs.take k=toB (bval xs):=by
 rw[<- y1y d]
 symm
 apply v7f (z4p h k)
 rcases c with rfl|c
 ·left;simp
 by_cases g:k=0
 ·subst g;left;simp
 right;rw[List.length_take,Nat.min_eq_left i,z8j _ _ _ (by omega)];exact c
end
section
open Go.RowKit
def seg (t:ByteArray) (c i:Nat):Nat:=num (((bts t).take i).drop c)
theorem v7t (t:ByteArray) (c:Nat):seg t c c=0:=by unfold seg;rw[List.drop_of_length_le (by rw[List.length_take];omega)];rfl
theorem v4j (t:ByteArray) (c i:Nat) (d:c<=i) (h:i<t.size):seg t c (i+1)=10*seg t c i+(t[i].toNat-48):=by
 unfold seg;rw[y9r t i h,List.drop_append_of_le_length (by rw[List.length_take,z1q];omega),z6e]
theorem x5r {l:List UInt8} (h:dgts l=true) (a b:Nat):dgts ((l.take a).drop b)=true:=by
 unfold dgts at *;rw[List.all_eq_true] at *;exact fun x c=>h x (List.mem_of_mem_take (List.mem_of_mem_drop c))
theorem seg_lt (t:ByteArray) (c i:Nat) (h:dgts (bts t)=true) (hi:i<=c+9):seg t c i<1000000000:=by
 have g:=v8y _ (x5r h i c);have:(((bts t).take i).drop c).length<=9:=by rw[List.length_drop,List.length_take];omega
 have d:10 ^ (((bts t).take i).drop c).length<=10 ^ 9:=Nat.pow_le_pow_right (by omega) this;unfold seg;omega
theorem x6s (l r:List UInt8):num (l++r)=num l*10 ^ r.length+num r:=by
 suffices h:∀ (k:Nat) (r:List UInt8),r.length=k->num (l++r)=num l*10 ^ r.length+num r from h _ r rfl
 intro k
 induction k with
 | zero =>
      intro r h;have:r=[]:=List.length_eq_zero_iff.1 h;subst this;simp[num]
 | succ k ih =>
  intro r h;obtain⟨m,c,rfl⟩:=y3i r (by intro e;subst e;simp at h);simp at h;rw[<- List.append_assoc,z6e,z6e,ih m h,List.length_append,List.length_singleton,Nat.pow_succ,Nat.mul_add,<- Nat.mul_assoc,<- Nat.mul_assoc,Nat.mul_comm (num l*10 ^ m.length) 10,<- Nat.mul_assoc];omega
theorem u0d (t:ByteArray) (c:Nat):num (bts t)=num ((bts t).take c)*10 ^ ((bts t).length-c)+seg t c t.size:=by
 have h:=x6s ((bts t).take c) ((bts t).drop c);rw[List.take_append_drop,List.length_drop] at h;have e:seg t c t.size=num ((bts t).drop c):=by unfold seg;rw[List.take_of_length_le (by rw[z1q];omega)]
 rw[e];exact h
theorem pow9 (k:Nat):10 ^ (9*k)=BB ^ k:=by rw[Nat.pow_mul,z0t]
structure BlkInv (s t:ByteArray) (l:List Nat):Prop where
 small:Small l
 dig:dgts (bts t)=true
 val:num (bts s)=num (bts t)*BB ^ l.length+bval l
 len:t.size<=1000/\(t.size=0\/t.size+9*l.length=s.size)
theorem BlkInv.step {s t:ByteArray} {l:List Nat} (h:BlkInv s t l) (c:Nat) (g:c=t.size-9) (j:0<t.size):BlkInv s (t.extract 0 c) (l++[seg t c t.size]):=by
 have hb:bts (t.extract 0 c)=(bts t).take c:=by
  have:=Lib.extract_data t 0 c;unfold bts;rw[this];simp
 have d:(t.extract 0 c).size=c:=by rw[<- z1q,hb,List.length_take,z1q];omega
 refine⟨z8x h.small (by rw[z0t];exact seg_lt t c t.size h.dig (by omega)),?_,?_,?_⟩
 ·rw[hb];have:=x5r h.dig c 0;simpa using this
 ·rw[h.val,z6s,hb,u0d t c,List.length_append,List.length_singleton];by_cases i:9<=t.size
  ·rw[show (bts t).length-c=9*1 by rw[z1q];omega,pow9,Nat.pow_succ BB l.length,Nat.pow_one,Nat.add_mul,Nat.mul_assoc,Nat.mul_comm BB (BB ^ l.length),Nat.mul_comm (seg t c t.size)];omega
  have:c=0:=by omega
  subst this;simp only[List.take_zero,show num []=0 from rfl,Nat.zero_mul,Nat.zero_add];rw[Nat.mul_comm];omega
 rw[d,List.length_append,List.length_singleton];have:=h.len;omega
theorem BlkInv.done {s t:ByteArray} {l:List Nat} (h:BlkInv s t l) (c:t.size=0):bval l=num (bts s):=by
 have:bts t=[]:=List.length_eq_zero_iff.1 (by rw[z1q];exact c);rw[h.val,this];simp[num]
theorem y0p:(prog.info? 179).map (fun i=>(i.zero,i.size,i.bytes))=some (some (.int .u64 0),1,8):=by kernel_rfl
def BlocksEnd (n:Nat) (w:World) (e:Ending) (w':World):Prop:=∃ v,e=.returned v/\Own w' w.heap.size 179 .u64 v (toB n)/\Below w.heap.size w w'
theorem x6n (s:ByteArray) (w:World) (X:s.size<=1000) (z:dgts (bts s)=true) :
  Calls prog 205 #[.string s] w (BlocksEnd (num (bts s)) w):=by
 obtain⟨i0,hi,K,N,Q⟩:=info_parts y0p;have E:BlkInv s s []:=⟨z8f,z,by simp[bval],X,.inr (by simp)⟩;clear z X;have Y:=qh E;clear E
 go_enter func205,ntmps205
 go_wp2
 go_loopw [0,3] (fun a v wr=>∃ t l,a=.string t/\BlkInv s t l/\Own wr w.heap.size 179 .u64 v l/\Below w.heap.size w wr)
  (fun a _ _=>strV a)
 case atStart=>exact⟨s,[],rfl,Y.out,Own.nil _ _ _ _,blr⟩
 obtain⟨t,l,rfl,d,h,hb⟩:=hrel;obtain⟨ad,J,rfl⟩:=h.shape;have m:=qh d.dig;have U:=d.len.1;have C:=qh d;clear d;have F:=qh h;clear h;have H:=qh hb;clear hb;by_cases E:t.size=0
 ·go_wp2_with fail
  refine(z6w ad J l wr F.out.sl).mono ?_;rintro e w' ⟨k,S,rfl,rfl⟩;have D:=qh S;clear S;go_wp2;go_ret;refine⟨_,rfl,?_,H.out⟩;rw[<- C.out.done E,<- z4q C.out.small D.out.1 D.out.2.1 D.out.2.2];exact F.out.take D.out.1
 have T:0<t.size:=by omega
 obtain⟨c,W⟩:=exq (t.size-9);have p:=qh W;clear W
 rcases Nat.lt_or_ge t.size 10 with h9|h9
 all_goals
  go_wp2
  go_loop [5,6] (fun n i=>∃ k:Nat,c<=k/\k<=t.size/\i=.int .i64 k/\n=.int .u64 (seg t c k:Nat)) (fun _ i=>t.size-(intOf i).toNat)
  case atStart=>exact⟨c,nlr,by have:=p.out;omega,by have:=p.out;go_num,by rw[v7t];rfl⟩
  obtain⟨k,I,Z,rfl,rfl⟩:=hrel;by_cases o:k<t.size
  ·have hn:=seg_lt t c k m.out (by have:=p.out;omega);have z:=v7r m.out k (by rw[z1q];exact o);rw[v9z t k o] at z;have a3:(48:Int)<=(t[k].toNat:Int):=by omega
   have a1:(t[k].toNat:Int)<=57:=by omega
   clear z;go_wp2
   go_round
   case rel=>exact⟨k+1,by omega,by omega,by go_num,by rw[v4j t c k I o];go_num⟩
   simp[intOf];omega
  have a2:l.length<=1000:=by have:=C.out.len.2;have:=C.out.step c p.out T;have:=Y.out.len.1;omega
  have L:=H.out.size
  go_wp2_with (at_builtin;refine wpList_append_own _ rfl (.tmp 29) (.tmp 31) 199 rfl w.heap.size 179 i0 (.int .u64 0) 1 8 underlying199 hi K N Q rfl (by decide) _ _ _ rfl (World.ownsRow.alloc F.out.raw _) ⟨wr.heap.size,0,none⟩ 1 1 [.int .u64 (seg t c k:Nat)] rfl rfl (cell_one_new _ _ _) (one_cell _ _) (by unfold maxLen;omega) (by omega) (by simp;omega) ?_;intro v' w1 j g _)
  obtain⟨R,hb⟩:=F.out.appended H.out L j g;clear j g;have B:=qh R;clear R;have O:=qh hb;clear hb;have u:k=t.size:=by omega
  have P:=qh u;clear u;go_wp2;go_roundw
  case rel =>
   have A:=C.out.step c p.out T;rw[P.out] at B;refine⟨_,_,rfl,?_,B.out,O.out⟩;have G:=p.out
   first
    | (rw[<- G];exact A)
    | (
      have e:c=0:=by omega
      have e2:t.extract 0 c=ByteArray.empty:=by rw[e];simp
      rw[<- e2];exact A)
  simp only[x3a,ByteArray.size_extract,ByteArray.size_empty];omega
end
section
open Go.RowKit
def z0p (F:Nat->Nat->Nat->Nat × Nat) (xs ys:List Nat):Nat->List Nat × Nat
 | 0=>([],0)
 | k+1=>((z0p F xs ys k).1++[(F (nth xs k) (nth ys k) (z0p F xs ys k).2).1],(F (nth xs k) (nth ys k) (z0p F xs ys k).2).2)
theorem z1c (F:Nat->Nat->Nat->Nat × Nat) (xs c:List Nat) (k:Nat):(z0p F xs c k).1.length=k:=by
 induction k with
 | zero=>rfl
 | succ k ih=>simp[z0p,ih]
def StepOk (F:Nat->Nat->Nat->Nat × Nat) (M:Nat):Prop:=∀ a b c,a<BB->b<BB->c<=M->(F a b c).1<BB/\(F a b c).2<=M
theorem z5z {F:Nat->Nat->Nat->Nat × Nat} {M:Nat} (h:StepOk F M) {xs c:List Nat} (g:Small xs) (d:Small c) (k:Nat):Small (z0p F xs c k).1/\(z0p F xs c k).2<=M:=by
 induction k with
 | zero=>exact⟨z8f,Nat.zero_le _⟩
 | succ k ih=>exact⟨z8x ih.1 (h _ _ _ (g k) (d k) ih.2).1,(h _ _ _ (g k) (d k) ih.2).2⟩
def ClosOk (g:FuncId) (caps:Array Value) (F:Nat->Nat->Nat->Nat × Nat) (M:Nat) (w:World):Prop :=
 ∀ (a b c:Nat) (wr:World),Below w.heap.size w wr->a<BB->b<BB->c<=M ->
  Calls prog g (#[.int .u64 (a:Int),.int .u64 (b:Int),.int .u64 (c:Int)]++caps) wr fun e w'=>e=.returned (.tuple #[.int .u64 ((F a b c).1:Nat),.int .u64 ((F a b c).2:Nat)])/\wr=w'
def EachEnd (n:Nat) (w:World) (e:Ending) (w':World):Prop:=∃ v,e=.returned v/\Own w' w.heap.size 179 .u64 v (toB n)/\Below w.heap.size w w'
theorem u2j (g:FuncId) (X:Array Value) (F:Nat->Nat->Nat->Nat × Nat) (M:Nat) (vx vy:Value) (xs d:List Nat) (w:World)
  (he:∀ args w,(callFunc g args).run prog w=.ok (.enter g args) w) (hF:StepOk F M) (a8:ClosOk g X F M w)
  (b7:xs.length<d.length) (hx:Sl w .u64 vx xs) (hy:Sl w .u64 vy d) (sx:Small xs) (sy:Small d) (ly:d.length<=100000) :
  Calls prog 228 #[vx,vy,.func (.func g) #[] X] w (EachEnd (bval (z0p F xs d (max xs.length d.length+1)).1) w):=by
 obtain⟨i0,hi,a6,a5,a1⟩:=info_parts y0p;obtain⟨ax,cx,bx,ox,rfl,R,b5,b2,b4,z⟩:=hx.open;obtain⟨ay,cy,a9,oy,rfl,P,b6,b1,a7,s⟩:=hy.open;unfold maxLen at b2 b1;have a3:=qh a8;clear a8 hx hy
 go_enter func228,ntmps228
 go_wp2
 go_loopw [7,8,19] (fun v c i wr=>∃ k:Nat,k<=max xs.length d.length+1/\i=.int .i64 k/\c=.int .u64 ((z0p F xs d k).2:Nat)/\Own wr w.heap.size 179 .u64 v (z0p F xs d k).1/\Below w.heap.size w wr)
  (fun _ _ i _=>max xs.length d.length+1-(intOf i).toNat)
 case atStart=>exact⟨0,Nat.zero_le _,rfl,rfl,Own.nil _ _ _ _,blr⟩
 obtain⟨k,hk,rfl,rfl,E,hb⟩:=hrel;obtain⟨W,D,rfl⟩:=E.shape;rw[z1c] at E;rw[z1c];have HO:=qh E;clear E;have L:=qh hb;clear hb;have a2:=L.out.size;by_cases b8:k<max xs.length d.length+1
 ·have U:=z5z hF sx sy k;have Z:=qh U;clear U;have a4:Hid (wr.ownsRow w.heap.size 179 1 (.slice W k D) k (vals .u64 (z0p F xs d k).1)):=qh (by have:=HO.out.raw;rw[z1c] at this;exact this)
  rcases Nat.lt_or_ge k d.length with T|T
  rcases Nat.lt_or_ge k xs.length with S|S
  rotate_left 2
  obtain S:xs.length<=k:=by omega
  rotate_left 1
  ·-- 1 1
   obtain rfl:=R (Nat.lt_of_le_of_lt (Nat.zero_le _) S);have c1:=(L.out.cell (p:=⟨bx,ox+k,none⟩) (b4 (Nat.lt_of_le_of_lt (Nat.zero_le _) S))).trans (z k S);obtain rfl:=P (Nat.lt_of_le_of_lt (Nat.zero_le _) T);have c2:=(L.out.cell (p:=⟨a9,oy+k,none⟩) (a7 (Nat.lt_of_le_of_lt (Nat.zero_le _) T))).trans (s k T);have l:=a3.out (nth xs k) (nth d k) (z0p F xs d k).2 wr L.out (sx k) (sy k) Z.out.2;have C:Own wr w.heap.size 179 .u64 (.slice W k D) (z0p F xs d k).1->∀ (B:Value) (A:World) (o:Obj),A.ownsRow w.heap.size 179 1 B (k+1) (vals .u64 (z0p F xs d k).1++[.int .u64 ((F (nth xs k) (nth d k) (z0p F xs d k).2).1:Nat)])->(wr.alloc o).grownBy A (Value.slice W k D).ownBlock->Own A w.heap.size 179 .u64 B (z0p F xs d (k+1)).1/\Below w.heap.size w A:=fun G B A o O Q=>by
    have:=G.appended L.out a2 (by rw[z1c];exact O) Q;simp only[z0p];exact this
   have u:(z0p F xs d (k+1)).2=(F (nth xs k) (nth d k) (z0p F xs d k).2).2:=by simp only[z0p]
   have J:=qh l;clear l;have K:=qh C;clear C;have N:=qh u;clear u;clear R P z s
   go_wp2_with fail
   refine J.out.mono ?_;rintro e w' ⟨rfl,rfl⟩
   go_wp2_with (at_builtin;refine wpList_append_own _ rfl (.tmp 46) (.tmp 48) 199 rfl w.heap.size 179 i0 (.int .u64 0) 1 8 underlying199 hi a6 a5 a1 rfl (by decide) _ _ _ rfl (World.ownsRow.alloc a4.out _) ⟨wr.heap.size,0,none⟩ 1 1 [.int .u64 ((F (nth xs k) (nth d k) (z0p F xs d k).2).1:Nat)] rfl rfl (cell_one_new _ _ _) (one_cell _ _) (by unfold maxLen;omega) (by omega) (by simp;omega) ?_;intro B A j h _)
   obtain⟨Y,hb⟩:=K.out HO.out B A _ j h;clear j h;have I:=qh Y;clear Y;have H:=qh hb;clear hb;go_wp2;go_roundw
   case rel=>exact⟨k+1,by omega,by go_num,by rw[N.out],I.out,H.out⟩
   simp[intOf];omega
  ·-- 0 1
   obtain rfl:=P (Nat.lt_of_le_of_lt (Nat.zero_le _) T);have c2:=(L.out.cell (p:=⟨a9,oy+k,none⟩) (a7 (Nat.lt_of_le_of_lt (Nat.zero_le _) T))).trans (s k T);have l:=a3.out 0 (nth d k) (z0p F xs d k).2 wr L.out z1y (sy k) Z.out.2;have C:Own wr w.heap.size 179 .u64 (.slice W k D) (z0p F xs d k).1->∀ (B:Value) (A:World) (o:Obj),A.ownsRow w.heap.size 179 1 B (k+1) (vals .u64 (z0p F xs d k).1++[.int .u64 ((F 0 (nth d k) (z0p F xs d k).2).1:Nat)])->(wr.alloc o).grownBy A (Value.slice W k D).ownBlock->Own A w.heap.size 179 .u64 B (z0p F xs d (k+1)).1/\Below w.heap.size w A:=fun G B A o O Q=>by
    have:=G.appended L.out a2 (by rw[z1c];exact O) Q;simp only[z0p];rw[z1s xs k S];exact this
   have u:(z0p F xs d (k+1)).2=(F 0 (nth d k) (z0p F xs d k).2).2:=by simp only[z0p];rw[z1s xs k S]
   have J:=qh l;clear l;have K:=qh C;clear C;have N:=qh u;clear u;clear R P z s
   go_wp2_with fail
   refine J.out.mono ?_;rintro e w' ⟨rfl,rfl⟩
   go_wp2_with (at_builtin;refine wpList_append_own _ rfl (.tmp 46) (.tmp 48) 199 rfl w.heap.size 179 i0 (.int .u64 0) 1 8 underlying199 hi a6 a5 a1 rfl (by decide) _ _ _ rfl (World.ownsRow.alloc a4.out _) ⟨wr.heap.size,0,none⟩ 1 1 [.int .u64 ((F 0 (nth d k) (z0p F xs d k).2).1:Nat)] rfl rfl (cell_one_new _ _ _) (one_cell _ _) (by unfold maxLen;omega) (by omega) (by simp;omega) ?_;intro B A j h _)
   obtain⟨Y,hb⟩:=K.out HO.out B A _ j h;clear j h;have I:=qh Y;clear Y;have H:=qh hb;clear hb;go_wp2;go_roundw
   case rel=>exact⟨k+1,by omega,by go_num,by rw[N.out],I.out,H.out⟩
   simp[intOf];omega
  have l:=a3.out 0 0 (z0p F xs d k).2 wr L.out z1y z1y Z.out.2;have C:Own wr w.heap.size 179 .u64 (.slice W k D) (z0p F xs d k).1->∀ (B:Value) (A:World) (o:Obj),A.ownsRow w.heap.size 179 1 B (k+1) (vals .u64 (z0p F xs d k).1++[.int .u64 ((F 0 0 (z0p F xs d k).2).1:Nat)])->(wr.alloc o).grownBy A (Value.slice W k D).ownBlock->Own A w.heap.size 179 .u64 B (z0p F xs d (k+1)).1/\Below w.heap.size w A:=fun G B A o O Q=>by
   have:=G.appended L.out a2 (by rw[z1c];exact O) Q;simp only[z0p];rw[z1s xs k S,z1s d k T];exact this
  have u:(z0p F xs d (k+1)).2=(F 0 0 (z0p F xs d k).2).2:=by simp only[z0p];rw[z1s xs k S,z1s d k T]
  have J:=qh l;clear l;have K:=qh C;clear C;have N:=qh u;clear u;clear R P z s
  go_wp2_with fail
  refine J.out.mono ?_;rintro e w' ⟨rfl,rfl⟩
  go_wp2_with (at_builtin;refine wpList_append_own _ rfl (.tmp 46) (.tmp 48) 199 rfl w.heap.size 179 i0 (.int .u64 0) 1 8 underlying199 hi a6 a5 a1 rfl (by decide) _ _ _ rfl (World.ownsRow.alloc a4.out _) ⟨wr.heap.size,0,none⟩ 1 1 [.int .u64 ((F 0 0 (z0p F xs d k).2).1:Nat)] rfl rfl (cell_one_new _ _ _) (one_cell _ _) (by unfold maxLen;omega) (by omega) (by simp;omega) ?_;intro B A j h _)
  obtain⟨Y,hb⟩:=K.out HO.out B A _ j h;clear j h;have I:=qh Y;clear Y;have H:=qh hb;clear hb;go_wp2;go_roundw
  case rel=>exact⟨k+1,by omega,by go_num,by rw[N.out],I.out,H.out⟩
  simp[intOf];omega
 go_wp2_with fail
 have b0:k=max xs.length d.length+1:=by omega
 have ht:=z6w W D (z0p F xs d k).1 wr (by rw[z1c];exact HO.out.sl);rw[z1c] at ht;refine ht.mono ?_;rintro e w' ⟨m,hm,rfl,rfl⟩;have HM:=qh hm;clear hm;have b3:=qh b0;clear b0;go_wp2;go_ret;have U:=z5z hF sx sy k;refine⟨_,rfl,?_,L.out⟩;rw[<- b3.out,<- z4q U.1 HM.out.1 HM.out.2.1 HM.out.2.2];exact HO.out.take HM.out.1
theorem u1p (g:FuncId) (X:Array Value) (F:Nat->Nat->Nat->Nat × Nat) (M:Nat) (vx vy:Value) (xs d:List Nat) (w:World)
  (he:∀ args w,(callFunc g args).run prog w=.ok (.enter g args) w) (hF:StepOk F M) (a7:ClosOk g X F M w)
  (b7:d.length<=xs.length) (hx:Sl w .u64 vx xs) (hy:Sl w .u64 vy d) (sx:Small xs) (sy:Small d) (lx:xs.length<=100000) :
  Calls prog 228 #[vx,vy,.func (.func g) #[] X] w (EachEnd (bval (z0p F xs d (max xs.length d.length+1)).1) w):=by
 obtain⟨i0,hi,a6,a5,a1⟩:=info_parts y0p;obtain⟨ax,cx,bx,ox,rfl,H,b5,b0,b1,s⟩:=hx.open;obtain⟨ay,cy,b3,oy,rfl,T,b6,a9,b2,z⟩:=hy.open;unfold maxLen at b0 a9;have a3:=qh a7;clear a7 hx hy
 go_enter func228,ntmps228
 go_wp2
 go_loopw [7,8,19] (fun v c i wr=>∃ k:Nat,k<=max xs.length d.length+1/\i=.int .i64 k/\c=.int .u64 ((z0p F xs d k).2:Nat)/\Own wr w.heap.size 179 .u64 v (z0p F xs d k).1/\Below w.heap.size w wr)
  (fun _ _ i _=>max xs.length d.length+1-(intOf i).toNat)
 case atStart=>exact⟨0,Nat.zero_le _,rfl,rfl,Own.nil _ _ _ _,blr⟩
 obtain⟨k,hk,rfl,rfl,E,hb⟩:=hrel;obtain⟨W,D,rfl⟩:=E.shape;rw[z1c] at E;rw[z1c];have HO:=qh E;clear E;have N:=qh hb;clear hb;have a2:=N.out.size;by_cases b8:k<max xs.length d.length+1
 ·have U:=z5z hF sx sy k;have Z:=qh U;clear U;have a4:Hid (wr.ownsRow w.heap.size 179 1 (.slice W k D) k (vals .u64 (z0p F xs d k).1)):=qh (by have:=HO.out.raw;rw[z1c] at this;exact this)
  rcases Nat.lt_or_ge k xs.length with R|R
  rcases Nat.lt_or_ge k d.length with S|S
  rotate_left 2
  obtain S:d.length<=k:=by omega
  rotate_left 1
  ·-- 1 1
   obtain rfl:=H (Nat.lt_of_le_of_lt (Nat.zero_le _) R);have c1:=(N.out.cell (p:=⟨bx,ox+k,none⟩) (b1 (Nat.lt_of_le_of_lt (Nat.zero_le _) R))).trans (s k R);obtain rfl:=T (Nat.lt_of_le_of_lt (Nat.zero_le _) S);have c2:=(N.out.cell (p:=⟨b3,oy+k,none⟩) (b2 (Nat.lt_of_le_of_lt (Nat.zero_le _) S))).trans (z k S);have l:=a3.out (nth xs k) (nth d k) (z0p F xs d k).2 wr N.out (sx k) (sy k) Z.out.2;have C:Own wr w.heap.size 179 .u64 (.slice W k D) (z0p F xs d k).1->∀ (B:Value) (A:World) (o:Obj),A.ownsRow w.heap.size 179 1 B (k+1) (vals .u64 (z0p F xs d k).1++[.int .u64 ((F (nth xs k) (nth d k) (z0p F xs d k).2).1:Nat)])->(wr.alloc o).grownBy A (Value.slice W k D).ownBlock->Own A w.heap.size 179 .u64 B (z0p F xs d (k+1)).1/\Below w.heap.size w A:=fun G B A o P Q=>by
    have:=G.appended N.out a2 (by rw[z1c];exact P) Q;simp only[z0p];exact this
   have u:(z0p F xs d (k+1)).2=(F (nth xs k) (nth d k) (z0p F xs d k).2).2:=by simp only[z0p]
   have K:=qh l;clear l;have L:=qh C;clear C;have O:=qh u;clear u;clear H T s z
   go_wp2_with fail
   refine K.out.mono ?_;rintro e w' ⟨rfl,rfl⟩
   go_wp2_with (at_builtin;refine wpList_append_own _ rfl (.tmp 46) (.tmp 48) 199 rfl w.heap.size 179 i0 (.int .u64 0) 1 8 underlying199 hi a6 a5 a1 rfl (by decide) _ _ _ rfl (World.ownsRow.alloc a4.out _) ⟨wr.heap.size,0,none⟩ 1 1 [.int .u64 ((F (nth xs k) (nth d k) (z0p F xs d k).2).1:Nat)] rfl rfl (cell_one_new _ _ _) (one_cell _ _) (by unfold maxLen;omega) (by omega) (by simp;omega) ?_;intro B A j h _)
   obtain⟨Y,hb⟩:=L.out HO.out B A _ j h;clear j h;have J:=qh Y;clear Y;have I:=qh hb;clear hb;go_wp2;go_roundw
   case rel=>exact⟨k+1,by omega,by go_num,by rw[O.out],J.out,I.out⟩
   simp[intOf];omega
  ·-- 1 0
   obtain rfl:=H (Nat.lt_of_le_of_lt (Nat.zero_le _) R);have c1:=(N.out.cell (p:=⟨bx,ox+k,none⟩) (b1 (Nat.lt_of_le_of_lt (Nat.zero_le _) R))).trans (s k R);have l:=a3.out (nth xs k) 0 (z0p F xs d k).2 wr N.out (sx k) z1y Z.out.2;have C:Own wr w.heap.size 179 .u64 (.slice W k D) (z0p F xs d k).1->∀ (B:Value) (A:World) (o:Obj),A.ownsRow w.heap.size 179 1 B (k+1) (vals .u64 (z0p F xs d k).1++[.int .u64 ((F (nth xs k) 0 (z0p F xs d k).2).1:Nat)])->(wr.alloc o).grownBy A (Value.slice W k D).ownBlock->Own A w.heap.size 179 .u64 B (z0p F xs d (k+1)).1/\Below w.heap.size w A:=fun G B A o P Q=>by
    have:=G.appended N.out a2 (by rw[z1c];exact P) Q;simp only[z0p];rw[z1s d k S];exact this
   have u:(z0p F xs d (k+1)).2=(F (nth xs k) 0 (z0p F xs d k).2).2:=by simp only[z0p];rw[z1s d k S]
   have K:=qh l;clear l;have L:=qh C;clear C;have O:=qh u;clear u;clear H T s z
   go_wp2_with fail
   refine K.out.mono ?_;rintro e w' ⟨rfl,rfl⟩
   go_wp2_with (at_builtin;refine wpList_append_own _ rfl (.tmp 46) (.tmp 48) 199 rfl w.heap.size 179 i0 (.int .u64 0) 1 8 underlying199 hi a6 a5 a1 rfl (by decide) _ _ _ rfl (World.ownsRow.alloc a4.out _) ⟨wr.heap.size,0,none⟩ 1 1 [.int .u64 ((F (nth xs k) 0 (z0p F xs d k).2).1:Nat)] rfl rfl (cell_one_new _ _ _) (one_cell _ _) (by unfold maxLen;omega) (by omega) (by simp;omega) ?_;intro B A j h _)
   obtain⟨Y,hb⟩:=L.out HO.out B A _ j h;clear j h;have J:=qh Y;clear Y;have I:=qh hb;clear hb;go_wp2;go_roundw
   case rel=>exact⟨k+1,by omega,by go_num,by rw[O.out],J.out,I.out⟩
   simp[intOf];omega
  have l:=a3.out 0 0 (z0p F xs d k).2 wr N.out z1y z1y Z.out.2;have C:Own wr w.heap.size 179 .u64 (.slice W k D) (z0p F xs d k).1->∀ (B:Value) (A:World) (o:Obj),A.ownsRow w.heap.size 179 1 B (k+1) (vals .u64 (z0p F xs d k).1++[.int .u64 ((F 0 0 (z0p F xs d k).2).1:Nat)])->(wr.alloc o).grownBy A (Value.slice W k D).ownBlock->Own A w.heap.size 179 .u64 B (z0p F xs d (k+1)).1/\Below w.heap.size w A:=fun G B A o P Q=>by
   have:=G.appended N.out a2 (by rw[z1c];exact P) Q;simp only[z0p];rw[z1s xs k R,z1s d k S];exact this
  have u:(z0p F xs d (k+1)).2=(F 0 0 (z0p F xs d k).2).2:=by simp only[z0p];rw[z1s xs k R,z1s d k S]
  have K:=qh l;clear l;have L:=qh C;clear C;have O:=qh u;clear u;clear H T s z
  go_wp2_with fail
  refine K.out.mono ?_;rintro e w' ⟨rfl,rfl⟩
  go_wp2_with (at_builtin;refine wpList_append_own _ rfl (.tmp 46) (.tmp 48) 199 rfl w.heap.size 179 i0 (.int .u64 0) 1 8 underlying199 hi a6 a5 a1 rfl (by decide) _ _ _ rfl (World.ownsRow.alloc a4.out _) ⟨wr.heap.size,0,none⟩ 1 1 [.int .u64 ((F 0 0 (z0p F xs d k).2).1:Nat)] rfl rfl (cell_one_new _ _ _) (one_cell _ _) (by unfold maxLen;omega) (by omega) (by simp;omega) ?_;intro B A j h _)
  obtain⟨Y,hb⟩:=L.out HO.out B A _ j h;clear j h;have J:=qh Y;clear Y;have I:=qh hb;clear hb;go_wp2;go_roundw
  case rel=>exact⟨k+1,by omega,by go_num,by rw[O.out],J.out,I.out⟩
  simp[intOf];omega
 go_wp2_with fail
 have a8:k=max xs.length d.length+1:=by omega
 have ht:=z6w W D (z0p F xs d k).1 wr (by rw[z1c];exact HO.out.sl);rw[z1c] at ht;refine ht.mono ?_;rintro e w' ⟨m,hm,rfl,rfl⟩;have HM:=qh hm;clear hm;have b4:=qh a8;clear a8;go_wp2;go_ret;have U:=z5z hF sx sy k;refine⟨_,rfl,?_,N.out⟩;rw[<- b4.out,<- z4q U.1 HM.out.1 HM.out.2.1 HM.out.2.2];exact HO.out.take HM.out.1
theorem y7j (g:FuncId) (c:Array Value) (F:Nat->Nat->Nat->Nat × Nat) (M:Nat) (k j:Value) (xs h:List Nat) (w:World)
  (l:∀ args w,(callFunc g args).run prog w=.ok (.enter g args) w) (u:StepOk F M) (i:ClosOk g c F M w)
  (s:Sl w .u64 k xs) (p:Sl w .u64 j h) (o:Small xs) (m:Small h) (z:xs.length<=100000) (A:h.length<=100000) :
  Calls prog 228 #[k,j,.func (.func g) #[] c] w (EachEnd (bval (z0p F xs h (max xs.length h.length+1)).1) w):=by
 rcases Nat.lt_or_ge xs.length h.length with d|d
 ·exact u2j g c F M k j xs h w l u i d s p o m A
 exact u1p g c F M k j xs h w l u i d s p o m z
end
section
open Go.RowKit
def z7d (a b c:Nat):Nat × Nat:=((a+b+c) % 1000000000,(a+b+c) / 1000000000)
def z4k (a b c:Nat):Nat × Nat:=((a+1000000000-b-c) % 1000000000,1-(a+1000000000-b-c) / 1000000000)
def z3a (k:Nat) (a _b c:Nat):Nat × Nat:=((a*k+c) % 1000000000,(a*k+c) / 1000000000)
theorem v9b:StepOk z7d 1:=fun a b c d hb g=>by
 rw[z0t] at *;simp only[z7d];omega
theorem x2b:StepOk z4k 1:=fun a b c d hb g=>by
 rw[z0t] at *;simp only[z4k];omega
theorem x1r {a k c:Nat} (d:a<BB) (g:k<BB) (h:c<BB):a*k+c<1000000000*1000000000:=by
 rw[z0t] at *;have:a*k<=999999999*999999999:=Nat.mul_le_mul (by omega) (by omega);omega
theorem x4t {k:Nat} (g:k<BB):StepOk (z3a k) 999999999:=fun a b c d hb h=>by
 have:=x1r d g (show c<BB by rw[z0t];omega);simp only[z3a,z0t];exact⟨Nat.mod_lt _ (by omega),by omega⟩
theorem v5u (w:World):ClosOk 229 #[] z7d 1 w:=fun a b c wr _ d hb g=>by
 rw[z0t] at d hb;simp only[z7d]
 go_enter func229,ntmps229
 go_wp2;go_ret2;exact⟨rfl,rfl⟩
theorem v3x (w:World):ClosOk 236 #[] z4k 1 w:=fun a b c wr _ d hb g=>by
 rw[z0t] at d hb;simp only[z4k]
 go_enter func236,ntmps236
 go_wp2;go_ret2;exact⟨v5v (by omega) (by omega),rfl⟩
theorem x6j (k bx:Nat) (w:World) (o:k<BB) (g:bx<w.heap.size) (h:w.cell? ⟨bx,0,none⟩=some (.int .u64 (k:Int))) :
  ClosOk 248 #[.pointer (some ⟨bx,0,none⟩)] (z3a k) 999999999 w:=fun a b c wr hb i _ m=>by
 have j:=x1r i o (show c<BB by rw[z0t];omega);have d:=(hb.cell (p:=⟨bx,0,none⟩) g).trans h;have l:0<=(a:Int)*(k:Int):=Int.mul_nonneg (Int.natCast_nonneg _) (Int.natCast_nonneg _);have s:(a:Int)*(k:Int)+(c:Int)<1000000000000000000:=by rw[<- Int.natCast_mul];omega
 clear h j;simp only[z3a]
 go_enter func248,ntmps248
 go_wp2;go_ret2;exact⟨rfl,rfl⟩
theorem z2r {xs:List Nat} {k:Nat} (h:xs.length<=k):xs.take k=xs:=List.take_of_length_le h
theorem x6k (xs d:List Nat) (k:Nat):bval (z0p z7d xs d k).1+BB ^ k*(z0p z7d xs d k).2=bval (xs.take k)+bval (d.take k):=by
 induction k with
 | zero=>simp[z0p,bval]
 | succ k ih =>
  simp only[z0p];rw[z6s,z1c,z0n,z0n,Nat.pow_succ];generalize (z0p z7d xs d k).2=c at *;generalize bval (z0p z7d xs d k).1=l at *;generalize nth xs k=a;generalize nth d k=b;have h:(z7d a b c).1+BB*(z7d a b c).2=a+b+c:=by simp only[z7d,z0t];omega
  have g:BB ^ k*(a+b+c)=BB ^ k*(z7d a b c).1+BB ^ k*BB*(z7d a b c).2:=by rw[<- h,Nat.mul_add,<- Nat.mul_assoc]
  rw[Nat.mul_add,Nat.mul_add] at g;omega
theorem y5r (F:Nat->Nat->Nat->Nat × Nat) (xs c:List Nat) (k:Nat):(z0p F xs c (k+1)).2=(F (nth xs k) (nth c k) (z0p F xs c k).2).2:=rfl
theorem x3p {c:Nat} (h:c<=1):(z7d 0 0 c).2=0:=by simp only[z7d];omega
theorem v1h (xs c:List Nat) (j:Small xs) (k:Small c) (n:Nat) (g:xs.length<=n) (d:c.length<=n):bval (z0p z7d xs c (n+1)).1=bval xs+bval c:=by
 have h:=x6k xs c (n+1);rw[z2r (Nat.le_succ_of_le g),z2r (Nat.le_succ_of_le d)] at h;have i:(z0p z7d xs c (n+1)).2=0:=by
  rw[y5r,z1s xs _ g,z1s c _ d];exact x3p (z5z v9b j k n).2
 rw[i,Nat.mul_zero,Nat.add_zero] at h;exact h
theorem v4v (xs c:List Nat) (g:Small xs) (d:Small c):bval (z0p z7d xs c (max xs.length c.length+1)).1=bval xs+bval c :=
 v1h xs c g d _ (Nat.le_max_left _ _) (Nat.le_max_right _ _)
theorem x2h (xs d:List Nat) (g:Small xs) (i:Small d) (k:Nat):bval (z0p z4k xs d k).1+bval (d.take k)=bval (xs.take k)+BB ^ k*(z0p z4k xs d k).2:=by
 induction k with
 | zero=>simp[z0p,bval]
 | succ k ih =>
  have o:=(z5z x2b g i k).2;have m:=g k;have hb:=i k;simp only[z0p];rw[z6s,z1c,z0n,z0n,Nat.pow_succ];generalize (z0p z4k xs d k).2=c at *;generalize bval (z0p z4k xs d k).1=l at *;generalize nth xs k=a at *;generalize nth d k=b at *;have h:(z4k a b c).1+b+c=a+BB*(z4k a b c).2:=by rw[z0t] at *;simp only[z4k];omega
  have j:BB ^ k*((z4k a b c).1+b+c)=BB ^ k*a+BB ^ k*BB*(z4k a b c).2:=by rw[h,Nat.mul_add,<- Nat.mul_assoc]
  rw[Nat.mul_add,Nat.mul_add] at j;omega
theorem x7e (xs d:List Nat) (m:Small xs) (j:Small d) (o:bval d<=bval xs) (n:Nat) (s:xs.length<=n) (p:d.length<=n):bval (z0p z4k xs d n).1=bval xs-bval d:=by
 have h:=x2h xs d m j n;rw[z2r s,z2r p] at h;have g:=z5z x2b m j n;have i:=z3z g.1;rw[z1c] at i;generalize bval (z0p z4k xs d n).1=l at *;generalize (z0p z4k xs d n).2=c at *
 rcases Nat.eq_zero_or_pos c with k|k
 ·subst k;rw[Nat.mul_zero,Nat.add_zero] at h;omega
 have:c=1:=by have:=g.2;omega
 subst this;rw[Nat.mul_one] at h;omega
theorem x9m (xs c:List Nat) (g:Small xs) (h:Small c) (d:bval c<=bval xs):bval (z0p z4k xs c (max xs.length c.length+1)).1=bval xs-bval c :=
 x7e xs c g h d _ (Nat.le_succ_of_le (Nat.le_max_left _ _)) (Nat.le_succ_of_le (Nat.le_max_right _ _))
theorem x1q (m:Nat) (xs:List Nat) (k:Nat):bval (z0p (z3a m) xs [] k).1+BB ^ k*(z0p (z3a m) xs [] k).2=bval (xs.take k)*m:=by
 induction k with
 | zero=>simp[z0p,bval]
 | succ k ih =>
  simp only[z0p];rw[z6s,z1c,z0n,Nat.pow_succ,Nat.add_mul,Nat.mul_assoc (BB ^ k) (nth xs k) m];generalize (z0p (z3a m) xs [] k).2=c at *;generalize bval (z0p (z3a m) xs [] k).1=l at *;generalize nth xs k=a;have h:(z3a m a (nth [] k) c).1+BB*(z3a m a (nth [] k) c).2=a*m+c:=by simp only[z3a,z0t];omega
  have d:BB ^ k*(a*m+c)=BB ^ k*(z3a m a (nth [] k) c).1+BB ^ k*BB*(z3a m a (nth [] k) c).2:=by rw[<- h,Nat.mul_add,<- Nat.mul_assoc]
  rw[Nat.mul_add] at d;omega
theorem x7q {m:Nat} (g:m<BB) (xs:List Nat) (d:Small xs):bval (z0p (z3a m) xs [] (max xs.length ([]:List Nat).length+1)).1=bval xs*m:=by
 have h:=x1q m xs (max xs.length ([]:List Nat).length+1);rw[z2r (by omega)] at h;have c:(z0p (z3a m) xs [] (max xs.length ([]:List Nat).length+1)).2=0:=by
  have:=(z5z (x4t g) d z8f (max xs.length ([]:List Nat).length)).2;simp only[z0p,z3a];rw[z1s xs _ (by omega),Nat.zero_mul,Nat.zero_add];exact Nat.div_eq_of_lt (by omega)
 rw[c] at h;simpa using h
theorem EachEnd.of {n:Nat} {w:World} {e:Ending} {c:World} (h:EachEnd n w e c):∃ v,e=.returned v/\Own c w.heap.size 179 .u64 v (toB n)/\Below w.heap.size w c:=h
theorem enter46:∀ args w,(callFunc 229 args).run prog w=.ok (.enter 229 args) w:=fun args w=>by kernel_rfl
theorem enter52:∀ args w,(callFunc 236 args).run prog w=.ok (.enter 236 args) w:=fun args w=>by kernel_rfl
theorem enter63:∀ args w,(callFunc 248 args).run prog w=.ok (.enter 248 args) w:=fun args w=>by kernel_rfl
theorem v4t (g d:Value) (m n:Nat) (w:World) (j:Sl w .u64 g (toB m)) (i:Sl w .u64 d (toB n)) (l:(toB m).length<=100000) (o:(toB n).length<=100000) :
  Calls prog 219 #[g,d] w (EachEnd (m+n) w):=by
 have c:=y7j 229 #[] z7d 1 g d (toB m) (toB n) w enter46 v9b (v5u w) j i (z0x m) (z0x n) l o;rw[v4v _ _ (z0x m) (z0x n),z1b,z1b] at c;have p:=qh c;clear c j i
 go_enter func219,ntmps219
 go_wp2_with fail
 refine p.out.mono ?_;rintro e s ⟨v,rfl,h⟩;have k:=qh h;clear h;go_wp2;go_ret;exact⟨v,rfl,k.out⟩
theorem x9u (h g:Value) (m n:Nat) (w:World) (k:Sl w .u64 h (toB m)) (j:Sl w .u64 g (toB n)) (o:(toB m).length<=100000) (p:(toB n).length<=100000) (c:n<=m) :
  Calls prog 222 #[h,g] w (EachEnd (m-n) w):=by
 have d:=y7j 236 #[] z4k 1 h g (toB m) (toB n) w enter52 x2b (v3x w) k j (z0x m) (z0x n) o p;rw[x9m _ _ (z0x m) (z0x n) (by rw[z1b,z1b];exact c),z1b,z1b] at d;have s:=qh d;clear d k j
 go_enter func222,ntmps222
 go_wp2_with fail
 refine s.out.mono ?_;rintro e u ⟨v,rfl,i⟩;have l:=qh i;clear i;go_wp2;go_ret;exact⟨v,rfl,l.out⟩
theorem y5t (i:Value) (m k:Nat) (w:World) (h:k<BB) (o:Sl w .u64 i (toB m)) (p:(toB m).length<=100000) :
  Calls prog 237 #[i,.int .u64 (k:Int)] w (EachEnd (m*k) w):=by
 have c:Below w.heap.size w (w.alloc (.cells #[.int .u64 (k:Int)] 179)):=blr.alloc nlr _;have g:=y7j 248 #[.pointer (some ⟨w.heap.size,0,none⟩)] (z3a k) 999999999 i (.slice none 0 0) (toB m) [] (w.alloc (.cells #[.int .u64 (k:Int)] 179)) enter63 (x4t h)
  (x6j k w.heap.size _ h (by simp) (by simp)) (o.below c nlr) (Sl.nil _ _) (z0x m) z8f p (by simp)
 rw[x7q h _ (z0x m),z1b] at g;have s:=qh g;clear g o;have d:=qh c;clear c
 go_enter func237,ntmps237
 go_wp2_with fail
 refine s.out.mono ?_;rintro e u ⟨v,rfl,l⟩;have j:=qh l;clear l;go_wp2;go_ret;exact⟨v,rfl,j.out.1.mono (by simp),d.out.trans (j.out.2.mono (by simp))⟩
end
end Go.Proofs.YteappjogmnogcaaGreatDoor
