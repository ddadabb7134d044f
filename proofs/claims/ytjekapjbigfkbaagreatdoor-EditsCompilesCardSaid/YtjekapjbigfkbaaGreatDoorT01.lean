/- Parts of a proof: MB. -/
import Derived.Test.YtjekapjbigfkbaaGreatDoorT00
namespace Go.Proofs.YtjekapjbigfkbaaGreatDoor
set_option maxRecDepth 100000
set_option linter.unusedSimpArgs false
set_option linter.unusedVariables false
set_option linter.unusedSectionVars false
set_option maxHeartbeats 16000000
open Go Tryz
section
open Go.RowKit
def Trimmed (xs:List Nat) (k:Nat):Prop:=k<=xs.length/\(∀ j,k<=j->nth xs j=0)/\(k=0\/nth xs (k-1)≠0)
def TrimEnd (a:Option Addr) (cap:Nat) (xs:List Nat) (w:World) (e:Ending) (w':World):Prop:=∃ k,Trimmed xs k/\e=.returned (.slice a k cap)/\w=w'
theorem z8d (a:Option Addr) (cap:Nat) (xs:List Nat) (w:World) (h:Sl w .u64 (.slice a xs.length cap) xs) :
  Calls prog 117 #[.slice a xs.length cap] w (TrimEnd a cap xs w):=by
 rcases h with ⟨g,rfl⟩|⟨b,o,c,g,E,D,A,z⟩
 ·simp only[Value.slice.injEq] at g;obtain⟨rfl,_,rfl⟩:=g
  go_enter func117,ntmps117
  go_wp2
  go_loop [0] (fun v=>v=.slice none 0 0) (fun v=>lenV v)
  case atStart=>exact rfl
  obtain rfl:=hrel;go_wp2;go_ret;exact⟨0,⟨Nat.zero_le _,fun j _=>z1n [] j (Nat.zero_le _),.inl rfl⟩,rfl,rfl⟩
 simp only[Value.slice.injEq,true_and] at g;obtain⟨rfl,rfl⟩:=g;unfold maxLen at A
 go_enter func117,ntmps117
 go_wp2
 go_loop [0] (fun v=>∃ k:Nat,k<=xs.length/\v=.slice (some ⟨b,o,none⟩) k cap/\∀ j,k<=j->nth xs j=0) (fun v=>lenV v)
 case atStart=>exact⟨xs.length,Nat.le_refl _,rfl,fun j s=>z1n xs j s⟩
 obtain⟨k,r,rfl,p⟩:=hrel;have l:=qh p;clear p;by_cases B:k=0
 ·subst B;go_wp2;go_ret;exact⟨0,⟨r,l.out,.inl rfl⟩,rfl,rfl⟩
 obtain⟨m,rfl⟩:∃ m,k=m+1:=⟨k-1,by omega⟩;have u:=z m (by omega);by_cases i:nth xs m=0
 ·have d:=qh i;clear i;rw[d.out] at u;go_wp2
  go_round
  case rel=>exact⟨m,by omega,rfl,fun j s=>by
   by_cases e:j=m
   ·rw[e];exact d.out
   exact l.out j (by omega)⟩
  simp[lenV]
 have d:=qh i;clear i;have C:(((nth xs m:Nat):Int)==0)=false:=by rw[beq_eq_false_iff_ne];have:=d.out;omega
 go_wp2;go_ret;exact⟨m+1,⟨r,l.out,.inr d.out⟩,rfl,rfl⟩
end
section
theorem u3u:∃ b:Nat,b=1000000000:=⟨_,rfl⟩
noncomputable def BB:Nat:=Classical.choose u3u
theorem z0u:BB=1000000000:=Classical.choose_spec u3u
theorem z2e:0<BB:=by rw[z0u];omega
theorem y7s:1<BB:=by rw[z0u];omega
noncomputable def bval:List Nat->Nat | []=>0|x::xs=>x+BB*bval xs
def Small (xs:List Nat):Prop:=∀ i,nth xs i<BB
theorem z9a:Small []:=fun i=>by rw[z1n _ _ (Nat.zero_le _)];exact z2e
theorem z7z (x:Nat) (xs:List Nat):nth (x::xs) 0=x:=rfl
theorem z5w (x:Nat) (xs:List Nat) (i:Nat):nth (x::xs) (i+1)=nth xs i:=rfl
theorem z3e (xs c:List Nat) (i:Nat) (h:i<xs.length):nth (xs++c) i=nth xs i:=by simp[nth,List.getD_eq_getElem?_getD,List.getElem?_append_left h]
theorem z2x (xs c:List Nat) (i:Nat) (h:xs.length<=i):nth (xs++c) i=nth c (i-xs.length):=by simp[nth,List.getD_eq_getElem?_getD,List.getElem?_append_right h]
theorem y2z {x:Nat} {xs:List Nat}:Small (x::xs)↔x<BB/\Small xs :=
 ⟨fun h=>⟨h 0,fun i=>h (i+1)⟩,fun ⟨d,c⟩ i=>by cases i with
  | zero=>exact d
  | succ i=>exact c i⟩
theorem z9m {x:Nat} {xs:List Nat} (h:Small xs) (c:x<BB):Small (xs++[x]):=fun i=>by
 by_cases d:i<xs.length
 ·rw[z3e _ _ _ d];exact h i
 rw[z2x _ _ _ (by omega)];cases i-xs.length with
 | zero=>exact c
 | succ j=>exact z2e
theorem z5b {xs:List Nat} (h:Small xs) (k:Nat):Small (xs.take k):=fun i=>by
 by_cases c:i<k
 ·rw[z9i _ _ _ c];exact h i
 rw[z1n _ _ (by rw[List.length_take];omega)];exact z2e
theorem z5f (xs c:List Nat):bval (xs++c)=bval xs+BB ^ xs.length*bval c:=by
 induction xs with
 | nil=>simp[bval]
 | cons x xs ih=>simp only[List.cons_append,bval,ih,List.length_cons,Nat.pow_succ];rw[Nat.mul_add,Nat.mul_comm (BB ^ xs.length) BB,Nat.mul_assoc];omega
theorem z7e (xs:List Nat) (x:Nat):bval (xs++[x])=bval xs+BB ^ xs.length*x:=by rw[z5f];simp[bval]
theorem z0n (xs:List Nat) (k:Nat):bval (xs.take (k+1))=bval (xs.take k)+BB ^ k*nth xs k:=by
 by_cases h:k<xs.length
 ·rw[z9r xs k h,z7e,List.length_take,Nat.min_eq_left (by omega)]
 rw[List.take_of_length_le (by omega),List.take_of_length_le (by omega),z1n xs k (by omega)];simp
theorem z4e {xs:List Nat} (h:Small xs):bval xs<BB ^ xs.length:=by
 induction xs with
 | nil=>simp[bval]
 | cons x xs ih =>
  obtain⟨g,c⟩:=y2z.1 h;have:=ih c;simp only[bval,List.length_cons,Nat.pow_succ];have d:BB*(bval xs+1)<=BB*BB ^ xs.length:=Nat.mul_le_mul_left _ this;rw[Nat.mul_comm (BB ^ xs.length)];rw[Nat.mul_add] at d;omega
theorem x1u {xs:List Nat} (h:∀ i,nth xs i=0):bval xs=0:=by
 induction xs with
 | nil=>rfl
 | cons x xs ih=>simp only[bval];rw[ih (fun i=>h (i+1)),show x=0 from h 0];simp
noncomputable def toBf:Nat->Nat->List Nat
 | 0,_=>[]
 | f+1,n=>if n=0 then [] else n % BB::toBf f (n / BB)
noncomputable def toB (n:Nat):List Nat:=toBf n n
theorem u1m:∀ (f g n:Nat),n<=f->n<=g->toBf f n=toBf g n:=by
 intro f
 induction f with
 | zero =>
      intro g n h _;have:n=0:=by omega
      subst this;cases g<;>simp[toBf]
 | succ f ih =>
  intro g n i d;by_cases c:n=0
  ·subst c;cases g<;>simp[toBf]
  cases g with
  | zero=>omega
  | succ g =>
   simp only[toBf,if_neg c];have:n / BB<n:=Nat.div_lt_self (by omega) y7s;rw[ih g (n / BB) (by omega) (by omega)]
theorem y4f:toB 0=[]:=rfl
theorem y0u {n:Nat} (h:n≠0):toB n=n % BB::toB (n / BB):=by
 unfold toB;cases n with
 | zero=>exact absurd rfl h
 | succ n =>
  have:(n+1) / BB<n+1:=Nat.div_lt_self (by omega) y7s;simp only[toBf,if_neg h];rw[u1m n ((n+1) / BB) ((n+1) / BB) (by omega) (by omega)]
theorem z1h (n:Nat):bval (toB n)=n:=by
 induction n using Nat.strongRecOn with
 | ind n ih =>
  by_cases h:n=0
  ·subst h;rfl
  rw[y0u h];simp only[bval];rw[ih (n / BB) (Nat.div_lt_self (by omega) y7s)];exact Nat.mod_add_div n BB
theorem z1b (n:Nat):Small (toB n):=by
 induction n using Nat.strongRecOn with
 | ind n ih =>
  by_cases h:n=0
  ·subst h;exact z9a
  rw[y0u h];exact y2z.2 ⟨Nat.mod_lt _ z2e,ih (n / BB) (Nat.div_lt_self (by omega) y7s)⟩
theorem v6i:∀ {xs:List Nat},Small xs->(xs=[]\/nth xs (xs.length-1)≠0)->toB (bval xs)=xs:=by
 intro xs
 induction xs with
 | nil=>intro _ _;rfl
 | cons x xs ih =>
  intro j l;obtain⟨g,o⟩:=y2z.1 j;have i:nth (x::xs) xs.length≠0:=by
   rcases l with h|h
   ·simp at h
   simpa using h
  have hi:xs=[]\/nth xs (xs.length-1)≠0:=by
   cases xs with
   | nil=>exact .inl rfl
   | cons y ys=>exact .inr (by simpa [z5w] using i)
  have c:=ih o hi;have d:bval (x::xs)≠0:=by
   cases xs with
   | nil =>
        simp only[bval];have:x≠0:=i;omega
   | cons y ys =>
    intro e;simp only[bval] at e;have p:bval (y::ys)=0:=by
     simp only[bval];have:=z2e
     rcases Nat.eq_zero_or_pos (y+BB*bval ys) with h|h
     ·exact h
     have:0<BB*(y+BB*bval ys):=Nat.mul_pos z2e h;omega
    rw[p] at c;simp[y4f] at c
  rw[y0u d];have k:bval (x::xs) % BB=x:=by simp only[bval];rw[Nat.add_mul_mod_self_left,Nat.mod_eq_of_lt g]
  have e2:bval (x::xs) / BB=bval xs:=by simp only[bval];rw[Nat.add_mul_div_left _ _ z2e,Nat.div_eq_of_lt g,Nat.zero_add]
  rw[k,e2,c]
theorem y9v {n:Nat} (h:n≠0):nth (toB n) ((toB n).length-1)≠0:=by
 induction n using Nat.strongRecOn with
 | ind n ih =>
  rw[y0u h];by_cases c:n / BB=0
  ·rw[c,y4f];show n % BB≠0;have:=Nat.mod_add_div n BB;rw[c] at this;omega
  have:=ih (n / BB) (Nat.div_lt_self (by omega) y7s) c;have d:1<=(toB (n / BB)).length:=by rw[y0u c];simp
  rw[List.length_cons,show (toB (n / BB)).length+1-1=((toB (n / BB)).length-1)+1 by omega,z5w];exact this
theorem y3v {n:Nat} (h:n≠0):1<=(toB n).length:=by rw[y0u h];simp
theorem z7d {n k:Nat} (h:n<BB ^ k):(toB n).length<=k:=by
 induction k generalizing n with
 | zero =>
      have:n=0:=by simp at h;exact h
      subst this;simp[y4f]
 | succ k ih =>
  by_cases c:n=0
  ·subst c;simp[y4f]
  rw[y0u c];have:n / BB<BB ^ k:=Nat.div_lt_of_lt_mul (by rw[Nat.pow_succ,Nat.mul_comm] at h;exact h);have:=ih this;simp;omega
theorem x8m {n:Nat} (h:n≠0):BB ^ ((toB n).length-1)<=n:=by
 have c:=z1h n;have i:=y9v h;have g:=y3v h;have d:=z0n (toB n) ((toB n).length-1);rw[show (toB n).length-1+1=(toB n).length by omega,List.take_length,c] at d;have:BB ^ ((toB n).length-1)*1<=BB ^ ((toB n).length-1)*nth (toB n) ((toB n).length-1):=Nat.mul_le_mul_left _ (by omega);omega
theorem z2t {m n:Nat} (h:m<=n):(toB m).length<=(toB n).length :=
 z7d (Nat.lt_of_le_of_lt h (by have:=z4e (z1b n);rw[z1h] at this;exact this))
theorem y3x {xs:List Nat} {k:Nat} (c:∀ j,k<=j->nth xs j=0):bval (xs.take k)=bval xs:=by
 have h:=z5f (xs.take k) (xs.drop k);rw[List.take_append_drop] at h;rw[h,x1u (xs:=xs.drop k) (fun i=>by
  have:nth (xs.drop k) i=nth xs (k+i):=by simp[nth,List.getD_eq_getElem?_getD]
  rw[this];exact c _ (by omega))]
 simp
theorem z4z {xs:List Nat} {k:Nat} (h:Small xs) (g:k<=xs.length) (d:∀ j,k<=j->nth xs j=0) (c:k=0\/nth xs (k-1)≠0):xs.take k=toB (bval xs):=by
 rw[<- y3x d]
 symm
 apply v6i (z5b h k)
 rcases c with rfl|c
 ·left;simp
 by_cases i:k=0
 ·subst i;left;simp
 right;rw[List.length_take,Nat.min_eq_left g,z9i _ _ _ (by omega)];exact c
end
section
open Go.RowKit
def seg (t:ByteArray) (c i:Nat):Nat:=num (((bts t).take i).drop c)
theorem v8i (t:ByteArray) (c:Nat):seg t c c=0:=by unfold seg;rw[List.drop_of_length_le (by rw[List.length_take];omega)];rfl
theorem v6e (t:ByteArray) (c i:Nat) (d:c<=i) (h:i<t.size):seg t c (i+1)=10*seg t c i+(t[i].toNat-48):=by
 unfold seg;rw[z7r t i h,List.drop_append_of_le_length (by rw[List.length_take,z0j];omega),z5g]
theorem x5q {l:List UInt8} (h:dgts l=true) (a b:Nat):dgts ((l.take a).drop b)=true:=by
 unfold dgts at *;rw[List.all_eq_true] at *;exact fun x c=>h x (List.mem_of_mem_take (List.mem_of_mem_drop c))
theorem seg_lt (t:ByteArray) (c i:Nat) (h:dgts (bts t)=true) (hi:i<=c+9):seg t c i<1000000000:=by
 have g:=v4t _ (x5q h i c);have:(((bts t).take i).drop c).length<=9:=by rw[List.length_drop,List.length_take];omega
 have d:10 ^ (((bts t).take i).drop c).length<=10 ^ 9:=Nat.pow_le_pow_right (by omega) this;unfold seg;omega
theorem x7x (l r:List UInt8):num (l++r)=num l*10 ^ r.length+num r:=by
 suffices h:∀ (k:Nat) (r:List UInt8),r.length=k->num (l++r)=num l*10 ^ r.length+num r from h _ r rfl
 intro k
 induction k with
 | zero =>
      intro r h;have:r=[]:=List.length_eq_zero_iff.1 h;subst this;simp[num]
 | succ k ih =>
  intro r h;obtain⟨m,c,rfl⟩:=y1e r (by intro e;subst e;simp at h);simp at h;rw[<- List.append_assoc,z5g,z5g,ih m h,List.length_append,List.length_singleton,Nat.pow_succ,Nat.mul_add,<- Nat.mul_assoc,<- Nat.mul_assoc,Nat.mul_comm (num l*10 ^ m.length) 10,<- Nat.mul_assoc];omega
theorem u2y (t:ByteArray) (c:Nat):num (bts t)=num ((bts t).take c)*10 ^ ((bts t).length-c)+seg t c t.size:=by
 have h:=x7x ((bts t).take c) ((bts t).drop c);rw[List.take_append_drop,List.length_drop] at h;have e:seg t c t.size=num ((bts t).drop c):=by unfold seg;rw[List.take_of_length_le (by rw[z0j];omega)]
 rw[e];exact h
theorem pow9 (k:Nat):10 ^ (9*k)=BB ^ k:=by rw[Nat.pow_mul,z0u]
structure BlkInv (s t:ByteArray) (l:List Nat):Prop where
 small:Small l
 dig:dgts (bts t)=true
 val:num (bts s)=num (bts t)*BB ^ l.length+bval l
 len:t.size<=1000/\(t.size=0\/t.size+9*l.length=s.size)
theorem BlkInv.step {s t:ByteArray} {l:List Nat} (h:BlkInv s t l) (c:Nat) (g:c=t.size-9) (j:0<t.size):BlkInv s (t.extract 0 c) (l++[seg t c t.size]):=by
 have hb:bts (t.extract 0 c)=(bts t).take c:=by
  have:=Lib.extract_data t 0 c;unfold bts;rw[this];simp
 have d:(t.extract 0 c).size=c:=by rw[<- z0j,hb,List.length_take,z0j];omega
 refine⟨z9m h.small (by rw[z0u];exact seg_lt t c t.size h.dig (by omega)),?_,?_,?_⟩
 ·rw[hb];have:=x5q h.dig c 0;simpa using this
 ·rw[h.val,z7e,hb,u2y t c,List.length_append,List.length_singleton];by_cases i:9<=t.size
  ·rw[show (bts t).length-c=9*1 by rw[z0j];omega,pow9,Nat.pow_succ BB l.length,Nat.pow_one,Nat.add_mul,Nat.mul_assoc,Nat.mul_comm BB (BB ^ l.length),Nat.mul_comm (seg t c t.size)];omega
  have:c=0:=by omega
  subst this;simp only[List.take_zero,show num []=0 from rfl,Nat.zero_mul,Nat.zero_add];rw[Nat.mul_comm];omega
 rw[d,List.length_append,List.length_singleton];have:=h.len;omega
theorem BlkInv.done {s t:ByteArray} {l:List Nat} (h:BlkInv s t l) (c:t.size=0):bval l=num (bts s):=by
 have:bts t=[]:=List.length_eq_zero_iff.1 (by rw[z0j];exact c);rw[h.val,this];simp[num]
theorem y1x:(prog.info? 153).map (fun i=>(i.zero,i.size,i.bytes))=some (some (.int .u64 0),1,8):=by kernel_rfl
def BlocksEnd (n:Nat) (w:World) (e:Ending) (w':World):Prop:=∃ v,e=.returned v/\Own w' w.heap.size 153 .u64 v (toB n)/\Below w.heap.size w w'
theorem x8v (s:ByteArray) (w:World) (S:s.size<=1000) (A:dgts (bts s)=true) :
  Calls prog 115 #[.string s] w (BlocksEnd (num (bts s)) w):=by
 obtain⟨i0,hi,J,H,O⟩:=info_parts y1x;have F:BlkInv s s []:=⟨z9a,A,by simp[bval],S,.inr (by simp)⟩;clear A S;have Y:=qh F;clear F
 go_enter func115,ntmps115
 go_wp2
 go_loopw [0,3] (fun a v wr=>∃ t l,a=.string t/\BlkInv s t l/\Own wr w.heap.size 153 .u64 v l/\Below w.heap.size w wr)
  (fun a _ _=>strV a)
 case atStart=>exact⟨s,[],rfl,Y.out,Own.nil _ _ _ _,Below.refl _ _⟩
 obtain⟨t,l,rfl,g,j,hb⟩:=hrel;obtain⟨Z,K,rfl⟩:=j.shape;have o:=qh g.dig;have W:=g.len.1;have C:=qh g;clear g;have D:=qh j;clear j;have N:=qh hb;clear hb;by_cases F:t.size=0
 ·go_wp2_with fail
  refine(z8d Z K l wr D.out.sl).mono ?_;rintro e w' ⟨k,X,rfl,rfl⟩;have E:=qh X;clear X;go_wp2;go_ret;refine⟨_,rfl,?_,N.out⟩;rw[<- C.out.done F,<- z4z C.out.small E.out.1 E.out.2.1 E.out.2.2];exact D.out.take E.out.1
 have T:0<t.size:=by omega
 obtain⟨c,R⟩:=exq (t.size-9);have r:=qh R;clear R
 rcases Nat.lt_or_ge t.size 10 with h9|h9
 all_goals
  go_wp2
  go_loop [5,6] (fun n i=>∃ k:Nat,c<=k/\k<=t.size/\i=.int .i64 k/\n=.int .u64 (seg t c k:Nat)) (fun _ i=>t.size-(intOf i).toNat)
  case atStart=>exact⟨c,Nat.le_refl _,by have:=r.out;omega,by have:=r.out;go_num,by rw[v8i];rfl⟩
  obtain⟨k,G,a3,rfl,rfl⟩:=hrel;by_cases p:k<t.size
  ·have hn:=seg_lt t c k o.out (by have:=r.out;omega);have A:=y9g o.out k (by rw[z0j];exact p);rw[x3x t k p] at A;have a4:(48:Int)<=(t[k].toNat:Int):=by omega
   have a1:(t[k].toNat:Int)<=57:=by omega
   clear A;go_wp2
   go_round
   case rel=>exact⟨k+1,by omega,by omega,by go_num,by rw[v6e t c k G p];go_num⟩
   simp[intOf];omega
  have a2:l.length<=1000:=by have:=C.out.len.2;have:=C.out.step c r.out T;have:=Y.out.len.1;omega
  have Q:=N.out.size
  go_wp2_with (at_builtin;refine wpList_append_own _ rfl (.tmp 29) (.tmp 31) 151 rfl w.heap.size 153 i0 (.int .u64 0) 1 8 underlying151 hi J H O rfl (by decide) _ _ _ rfl (World.ownsRow.alloc D.out.raw _) ⟨wr.heap.size,0,none⟩ 1 1 [.int .u64 (seg t c k:Nat)] rfl rfl (cell_one_new _ _ _) (one_cell _ _) (by unfold maxLen;omega) (by omega) (by simp;omega) ?_;intro v' w1 h d _)
  obtain⟨U,hb⟩:=D.out.appended N.out Q h d;clear h d;have z:=qh U;clear U;have L:=qh hb;clear hb;have u:k=t.size:=by omega
  have P:=qh u;clear u;go_wp2;go_roundw
  case rel =>
   have B:=C.out.step c r.out T;rw[P.out] at z;refine⟨_,_,rfl,?_,z.out,L.out⟩;have I:=r.out
   first
    | (rw[<- I];exact B)
    | (
      have e:c=0:=by omega
      have e2:t.extract 0 c=ByteArray.empty:=by rw[e];simp
      rw[<- e2];exact B)
  simp only[x3w,ByteArray.size_extract,ByteArray.size_empty];omega
end
section
open Go.RowKit
def z0p (F:Nat->Nat->Nat->Nat × Nat) (xs ys:List Nat):Nat->List Nat × Nat
 | 0=>([],0)
 | k+1=>((z0p F xs ys k).1++[(F (nth xs k) (nth ys k) (z0p F xs ys k).2).1],(F (nth xs k) (nth ys k) (z0p F xs ys k).2).2)
theorem z1i (F:Nat->Nat->Nat->Nat × Nat) (xs c:List Nat) (k:Nat):(z0p F xs c k).1.length=k:=by
 induction k with
 | zero=>rfl
 | succ k ih=>simp[z0p,ih]
def StepOk (F:Nat->Nat->Nat->Nat × Nat) (M:Nat):Prop:=∀ a b c,a<BB->b<BB->c<=M->(F a b c).1<BB/\(F a b c).2<=M
theorem z6t {F:Nat->Nat->Nat->Nat × Nat} {M:Nat} (d:StepOk F M) {xs c:List Nat} (g:Small xs) (h:Small c) (k:Nat):Small (z0p F xs c k).1/\(z0p F xs c k).2<=M:=by
 induction k with
 | zero=>exact⟨z9a,Nat.zero_le _⟩
 | succ k ih=>exact⟨z9m ih.1 (d _ _ _ (g k) (h k) ih.2).1,(d _ _ _ (g k) (h k) ih.2).2⟩
def ClosOk (g:FuncId) (caps:Array Value) (F:Nat->Nat->Nat->Nat × Nat) (M:Nat) (w:World):Prop :=
 ∀ (a b c:Nat) (wr:World),Below w.heap.size w wr->a<BB->b<BB->c<=M ->
  Calls prog g (#[.int .u64 (a:Int),.int .u64 (b:Int),.int .u64 (c:Int)]++caps) wr fun e w'=>e=.returned (.tuple #[.int .u64 ((F a b c).1:Nat),.int .u64 ((F a b c).2:Nat)])/\wr=w'
def EachEnd (n:Nat) (w:World) (e:Ending) (w':World):Prop:=∃ v,e=.returned v/\Own w' w.heap.size 153 .u64 v (toB n)/\Below w.heap.size w w'
theorem u2u (g:FuncId) (X:Array Value) (F:Nat->Nat->Nat->Nat × Nat) (M:Nat) (vx vy:Value) (xs d:List Nat) (w:World)
  (he:∀ args w,(callFunc g args).run prog w=.ok (.enter g args) w) (hF:StepOk F M) (a7:ClosOk g X F M w)
  (b6:xs.length<d.length) (hx:Sl w .u64 vx xs) (hy:Sl w .u64 vy d) (sx:Small xs) (sy:Small d) (ly:d.length<=100000) :
  Calls prog 182 #[vx,vy,.func (.func g) #[] X] w (EachEnd (bval (z0p F xs d (max xs.length d.length+1)).1) w):=by
 obtain⟨i0,hi,a2,Z,Y⟩:=info_parts y1x;obtain⟨ax,cx,bx,ox,rfl,Q,b5,b0,b2,u⟩:=hx.open;obtain⟨ay,cy,a8,oy,rfl,J,b4,a9,b1,r⟩:=hy.open;unfold maxLen at b0 a9;have a5:=qh a7;clear a7 hx hy
 go_enter func182,ntmps182
 go_wp2
 go_loopw [7,8,19] (fun v c i wr=>∃ k:Nat,k<=max xs.length d.length+1/\i=.int .i64 k/\c=.int .u64 ((z0p F xs d k).2:Nat)/\Own wr w.heap.size 153 .u64 v (z0p F xs d k).1/\Below w.heap.size w wr)
  (fun _ _ i _=>max xs.length d.length+1-(intOf i).toNat)
 case atStart=>exact⟨0,Nat.zero_le _,rfl,rfl,Own.nil _ _ _ _,Below.refl _ _⟩
 obtain⟨k,hk,rfl,rfl,D,hb⟩:=hrel;obtain⟨U,C,rfl⟩:=D.shape;rw[z1i] at D;rw[z1i];have HO:=qh D;clear D;have O:=qh hb;clear hb;have a4:=O.out.size;by_cases b7:k<max xs.length d.length+1
 ·have S:=z6t hF sx sy k;have a3:=qh S;clear S;have a1:Hid (wr.ownsRow w.heap.size 153 1 (.slice U k C) k (vals .u64 (z0p F xs d k).1)):=qh (by have:=HO.out.raw;rw[z1i] at this;exact this)
  rcases Nat.lt_or_ge k d.length with T|T
  rcases Nat.lt_or_ge k xs.length with R|R
  rotate_left 2
  obtain R:xs.length<=k:=by omega
  rotate_left 1
  ·-- 1 1
   obtain rfl:=Q (Nat.lt_of_le_of_lt (Nat.zero_le _) R);have c1:=(O.out.cell (p:=⟨bx,ox+k,none⟩) (b2 (Nat.lt_of_le_of_lt (Nat.zero_le _) R))).trans (u k R);obtain rfl:=J (Nat.lt_of_le_of_lt (Nat.zero_le _) T);have c2:=(O.out.cell (p:=⟨a8,oy+k,none⟩) (b1 (Nat.lt_of_le_of_lt (Nat.zero_le _) T))).trans (r k T);have l:=a5.out (nth xs k) (nth d k) (z0p F xs d k).2 wr O.out (sx k) (sy k) a3.out.2;have A:Own wr w.heap.size 153 .u64 (.slice U k C) (z0p F xs d k).1->∀ (B:Value) (z:World) (o:Obj),z.ownsRow w.heap.size 153 1 B (k+1) (vals .u64 (z0p F xs d k).1++[.int .u64 ((F (nth xs k) (nth d k) (z0p F xs d k).2).1:Nat)])->(wr.alloc o).grownBy z (Value.slice U k C).ownBlock->Own z w.heap.size 153 .u64 B (z0p F xs d (k+1)).1/\Below w.heap.size w z:=fun L B z o P E=>by
    have:=L.appended O.out a4 (by rw[z1i];exact P) E;simp only[z0p];exact this
   have s:(z0p F xs d (k+1)).2=(F (nth xs k) (nth d k) (z0p F xs d k).2).2:=by simp only[z0p]
   have K:=qh l;clear l;have N:=qh A;clear A;have I:=qh s;clear s;clear Q J u r
   go_wp2_with fail
   refine K.out.mono ?_;rintro e w' ⟨rfl,rfl⟩
   go_wp2_with (at_builtin;refine wpList_append_own _ rfl (.tmp 46) (.tmp 48) 151 rfl w.heap.size 153 i0 (.int .u64 0) 1 8 underlying151 hi a2 Z Y rfl (by decide) _ _ _ rfl (World.ownsRow.alloc a1.out _) ⟨wr.heap.size,0,none⟩ 1 1 [.int .u64 ((F (nth xs k) (nth d k) (z0p F xs d k).2).1:Nat)] rfl rfl (cell_one_new _ _ _) (one_cell _ _) (by unfold maxLen;omega) (by omega) (by simp;omega) ?_;intro B z j h _)
   obtain⟨W,hb⟩:=N.out HO.out B z _ j h;clear j h;have G:=qh W;clear W;have H:=qh hb;clear hb;go_wp2;go_roundw
   case rel=>exact⟨k+1,by omega,by go_num,by rw[I.out],G.out,H.out⟩
   simp[intOf];omega
  ·-- 0 1
   obtain rfl:=J (Nat.lt_of_le_of_lt (Nat.zero_le _) T);have c2:=(O.out.cell (p:=⟨a8,oy+k,none⟩) (b1 (Nat.lt_of_le_of_lt (Nat.zero_le _) T))).trans (r k T);have l:=a5.out 0 (nth d k) (z0p F xs d k).2 wr O.out z2e (sy k) a3.out.2;have A:Own wr w.heap.size 153 .u64 (.slice U k C) (z0p F xs d k).1->∀ (B:Value) (z:World) (o:Obj),z.ownsRow w.heap.size 153 1 B (k+1) (vals .u64 (z0p F xs d k).1++[.int .u64 ((F 0 (nth d k) (z0p F xs d k).2).1:Nat)])->(wr.alloc o).grownBy z (Value.slice U k C).ownBlock->Own z w.heap.size 153 .u64 B (z0p F xs d (k+1)).1/\Below w.heap.size w z:=fun L B z o P E=>by
    have:=L.appended O.out a4 (by rw[z1i];exact P) E;simp only[z0p];rw[z1n xs k R];exact this
   have s:(z0p F xs d (k+1)).2=(F 0 (nth d k) (z0p F xs d k).2).2:=by simp only[z0p];rw[z1n xs k R]
   have K:=qh l;clear l;have N:=qh A;clear A;have I:=qh s;clear s;clear Q J u r
   go_wp2_with fail
   refine K.out.mono ?_;rintro e w' ⟨rfl,rfl⟩
   go_wp2_with (at_builtin;refine wpList_append_own _ rfl (.tmp 46) (.tmp 48) 151 rfl w.heap.size 153 i0 (.int .u64 0) 1 8 underlying151 hi a2 Z Y rfl (by decide) _ _ _ rfl (World.ownsRow.alloc a1.out _) ⟨wr.heap.size,0,none⟩ 1 1 [.int .u64 ((F 0 (nth d k) (z0p F xs d k).2).1:Nat)] rfl rfl (cell_one_new _ _ _) (one_cell _ _) (by unfold maxLen;omega) (by omega) (by simp;omega) ?_;intro B z j h _)
   obtain⟨W,hb⟩:=N.out HO.out B z _ j h;clear j h;have G:=qh W;clear W;have H:=qh hb;clear hb;go_wp2;go_roundw
   case rel=>exact⟨k+1,by omega,by go_num,by rw[I.out],G.out,H.out⟩
   simp[intOf];omega
  have l:=a5.out 0 0 (z0p F xs d k).2 wr O.out z2e z2e a3.out.2;have A:Own wr w.heap.size 153 .u64 (.slice U k C) (z0p F xs d k).1->∀ (B:Value) (z:World) (o:Obj),z.ownsRow w.heap.size 153 1 B (k+1) (vals .u64 (z0p F xs d k).1++[.int .u64 ((F 0 0 (z0p F xs d k).2).1:Nat)])->(wr.alloc o).grownBy z (Value.slice U k C).ownBlock->Own z w.heap.size 153 .u64 B (z0p F xs d (k+1)).1/\Below w.heap.size w z:=fun L B z o P E=>by
   have:=L.appended O.out a4 (by rw[z1i];exact P) E;simp only[z0p];rw[z1n xs k R,z1n d k T];exact this
  have s:(z0p F xs d (k+1)).2=(F 0 0 (z0p F xs d k).2).2:=by simp only[z0p];rw[z1n xs k R,z1n d k T]
  have K:=qh l;clear l;have N:=qh A;clear A;have I:=qh s;clear s;clear Q J u r
  go_wp2_with fail
  refine K.out.mono ?_;rintro e w' ⟨rfl,rfl⟩
  go_wp2_with (at_builtin;refine wpList_append_own _ rfl (.tmp 46) (.tmp 48) 151 rfl w.heap.size 153 i0 (.int .u64 0) 1 8 underlying151 hi a2 Z Y rfl (by decide) _ _ _ rfl (World.ownsRow.alloc a1.out _) ⟨wr.heap.size,0,none⟩ 1 1 [.int .u64 ((F 0 0 (z0p F xs d k).2).1:Nat)] rfl rfl (cell_one_new _ _ _) (one_cell _ _) (by unfold maxLen;omega) (by omega) (by simp;omega) ?_;intro B z j h _)
  obtain⟨W,hb⟩:=N.out HO.out B z _ j h;clear j h;have G:=qh W;clear W;have H:=qh hb;clear hb;go_wp2;go_roundw
  case rel=>exact⟨k+1,by omega,by go_num,by rw[I.out],G.out,H.out⟩
  simp[intOf];omega
 go_wp2_with fail
 have a6:k=max xs.length d.length+1:=by omega
 have ht:=z8d U C (z0p F xs d k).1 wr (by rw[z1i];exact HO.out.sl);rw[z1i] at ht;refine ht.mono ?_;rintro e w' ⟨m,hm,rfl,rfl⟩;have HM:=qh hm;clear hm;have b3:=qh a6;clear a6;go_wp2;go_ret;have S:=z6t hF sx sy k;refine⟨_,rfl,?_,O.out⟩;rw[<- b3.out,<- z4z S.1 HM.out.1 HM.out.2.1 HM.out.2.2];exact HO.out.take HM.out.1
theorem u2x (g:FuncId) (X:Array Value) (F:Nat->Nat->Nat->Nat × Nat) (M:Nat) (vx vy:Value) (xs d:List Nat) (w:World)
  (he:∀ args w,(callFunc g args).run prog w=.ok (.enter g args) w) (hF:StepOk F M) (a7:ClosOk g X F M w)
  (b6:d.length<=xs.length) (hx:Sl w .u64 vx xs) (hy:Sl w .u64 vy d) (sx:Small xs) (sy:Small d) (lx:xs.length<=100000) :
  Calls prog 182 #[vx,vy,.func (.func g) #[] X] w (EachEnd (bval (z0p F xs d (max xs.length d.length+1)).1) w):=by
 obtain⟨i0,hi,a2,Z,Y⟩:=info_parts y1x;obtain⟨ax,cx,bx,ox,rfl,H,b5,b0,a9,r⟩:=hx.open;obtain⟨ay,cy,b1,oy,rfl,R,b4,a8,b2,u⟩:=hy.open;unfold maxLen at b0 a8;have a5:=qh a7;clear a7 hx hy
 go_enter func182,ntmps182
 go_wp2
 go_loopw [7,8,19] (fun v c i wr=>∃ k:Nat,k<=max xs.length d.length+1/\i=.int .i64 k/\c=.int .u64 ((z0p F xs d k).2:Nat)/\Own wr w.heap.size 153 .u64 v (z0p F xs d k).1/\Below w.heap.size w wr)
  (fun _ _ i _=>max xs.length d.length+1-(intOf i).toNat)
 case atStart=>exact⟨0,Nat.zero_le _,rfl,rfl,Own.nil _ _ _ _,Below.refl _ _⟩
 obtain⟨k,hk,rfl,rfl,D,hb⟩:=hrel;obtain⟨U,C,rfl⟩:=D.shape;rw[z1i] at D;rw[z1i];have HO:=qh D;clear D;have O:=qh hb;clear hb;have a4:=O.out.size;by_cases b7:k<max xs.length d.length+1
 ·have S:=z6t hF sx sy k;have a3:=qh S;clear S;have a1:Hid (wr.ownsRow w.heap.size 153 1 (.slice U k C) k (vals .u64 (z0p F xs d k).1)):=qh (by have:=HO.out.raw;rw[z1i] at this;exact this)
  rcases Nat.lt_or_ge k xs.length with Q|Q
  rcases Nat.lt_or_ge k d.length with T|T
  rotate_left 2
  obtain T:d.length<=k:=by omega
  rotate_left 1
  ·-- 1 1
   obtain rfl:=H (Nat.lt_of_le_of_lt (Nat.zero_le _) Q);have c1:=(O.out.cell (p:=⟨bx,ox+k,none⟩) (a9 (Nat.lt_of_le_of_lt (Nat.zero_le _) Q))).trans (r k Q);obtain rfl:=R (Nat.lt_of_le_of_lt (Nat.zero_le _) T);have c2:=(O.out.cell (p:=⟨b1,oy+k,none⟩) (b2 (Nat.lt_of_le_of_lt (Nat.zero_le _) T))).trans (u k T);have l:=a5.out (nth xs k) (nth d k) (z0p F xs d k).2 wr O.out (sx k) (sy k) a3.out.2;have A:Own wr w.heap.size 153 .u64 (.slice U k C) (z0p F xs d k).1->∀ (B:Value) (z:World) (o:Obj),z.ownsRow w.heap.size 153 1 B (k+1) (vals .u64 (z0p F xs d k).1++[.int .u64 ((F (nth xs k) (nth d k) (z0p F xs d k).2).1:Nat)])->(wr.alloc o).grownBy z (Value.slice U k C).ownBlock->Own z w.heap.size 153 .u64 B (z0p F xs d (k+1)).1/\Below w.heap.size w z:=fun L B z o P E=>by
    have:=L.appended O.out a4 (by rw[z1i];exact P) E;simp only[z0p];exact this
   have s:(z0p F xs d (k+1)).2=(F (nth xs k) (nth d k) (z0p F xs d k).2).2:=by simp only[z0p]
   have K:=qh l;clear l;have N:=qh A;clear A;have J:=qh s;clear s;clear H R r u
   go_wp2_with fail
   refine K.out.mono ?_;rintro e w' ⟨rfl,rfl⟩
   go_wp2_with (at_builtin;refine wpList_append_own _ rfl (.tmp 46) (.tmp 48) 151 rfl w.heap.size 153 i0 (.int .u64 0) 1 8 underlying151 hi a2 Z Y rfl (by decide) _ _ _ rfl (World.ownsRow.alloc a1.out _) ⟨wr.heap.size,0,none⟩ 1 1 [.int .u64 ((F (nth xs k) (nth d k) (z0p F xs d k).2).1:Nat)] rfl rfl (cell_one_new _ _ _) (one_cell _ _) (by unfold maxLen;omega) (by omega) (by simp;omega) ?_;intro B z j h _)
   obtain⟨W,hb⟩:=N.out HO.out B z _ j h;clear j h;have G:=qh W;clear W;have I:=qh hb;clear hb;go_wp2;go_roundw
   case rel=>exact⟨k+1,by omega,by go_num,by rw[J.out],G.out,I.out⟩
   simp[intOf];omega
  ·-- 1 0
   obtain rfl:=H (Nat.lt_of_le_of_lt (Nat.zero_le _) Q);have c1:=(O.out.cell (p:=⟨bx,ox+k,none⟩) (a9 (Nat.lt_of_le_of_lt (Nat.zero_le _) Q))).trans (r k Q);have l:=a5.out (nth xs k) 0 (z0p F xs d k).2 wr O.out (sx k) z2e a3.out.2;have A:Own wr w.heap.size 153 .u64 (.slice U k C) (z0p F xs d k).1->∀ (B:Value) (z:World) (o:Obj),z.ownsRow w.heap.size 153 1 B (k+1) (vals .u64 (z0p F xs d k).1++[.int .u64 ((F (nth xs k) 0 (z0p F xs d k).2).1:Nat)])->(wr.alloc o).grownBy z (Value.slice U k C).ownBlock->Own z w.heap.size 153 .u64 B (z0p F xs d (k+1)).1/\Below w.heap.size w z:=fun L B z o P E=>by
    have:=L.appended O.out a4 (by rw[z1i];exact P) E;simp only[z0p];rw[z1n d k T];exact this
   have s:(z0p F xs d (k+1)).2=(F (nth xs k) 0 (z0p F xs d k).2).2:=by simp only[z0p];rw[z1n d k T]
   have K:=qh l;clear l;have N:=qh A;clear A;have J:=qh s;clear s;clear H R r u
   go_wp2_with fail
   refine K.out.mono ?_;rintro e w' ⟨rfl,rfl⟩
   go_wp2_with (at_builtin;refine wpList_append_own _ rfl (.tmp 46) (.tmp 48) 151 rfl w.heap.size 153 i0 (.int .u64 0) 1 8 underlying151 hi a2 Z Y rfl (by decide) _ _ _ rfl (World.ownsRow.alloc a1.out _) ⟨wr.heap.size,0,none⟩ 1 1 [.int .u64 ((F (nth xs k) 0 (z0p F xs d k).2).1:Nat)] rfl rfl (cell_one_new _ _ _) (one_cell _ _) (by unfold maxLen;omega) (by omega) (by simp;omega) ?_;intro B z j h _)
   obtain⟨W,hb⟩:=N.out HO.out B z _ j h;clear j h;have G:=qh W;clear W;have I:=qh hb;clear hb;go_wp2;go_roundw
   case rel=>exact⟨k+1,by omega,by go_num,by rw[J.out],G.out,I.out⟩
   simp[intOf];omega
  have l:=a5.out 0 0 (z0p F xs d k).2 wr O.out z2e z2e a3.out.2;have A:Own wr w.heap.size 153 .u64 (.slice U k C) (z0p F xs d k).1->∀ (B:Value) (z:World) (o:Obj),z.ownsRow w.heap.size 153 1 B (k+1) (vals .u64 (z0p F xs d k).1++[.int .u64 ((F 0 0 (z0p F xs d k).2).1:Nat)])->(wr.alloc o).grownBy z (Value.slice U k C).ownBlock->Own z w.heap.size 153 .u64 B (z0p F xs d (k+1)).1/\Below w.heap.size w z:=fun L B z o P E=>by
   have:=L.appended O.out a4 (by rw[z1i];exact P) E;simp only[z0p];rw[z1n xs k Q,z1n d k T];exact this
  have s:(z0p F xs d (k+1)).2=(F 0 0 (z0p F xs d k).2).2:=by simp only[z0p];rw[z1n xs k Q,z1n d k T]
  have K:=qh l;clear l;have N:=qh A;clear A;have J:=qh s;clear s;clear H R r u
  go_wp2_with fail
  refine K.out.mono ?_;rintro e w' ⟨rfl,rfl⟩
  go_wp2_with (at_builtin;refine wpList_append_own _ rfl (.tmp 46) (.tmp 48) 151 rfl w.heap.size 153 i0 (.int .u64 0) 1 8 underlying151 hi a2 Z Y rfl (by decide) _ _ _ rfl (World.ownsRow.alloc a1.out _) ⟨wr.heap.size,0,none⟩ 1 1 [.int .u64 ((F 0 0 (z0p F xs d k).2).1:Nat)] rfl rfl (cell_one_new _ _ _) (one_cell _ _) (by unfold maxLen;omega) (by omega) (by simp;omega) ?_;intro B z j h _)
  obtain⟨W,hb⟩:=N.out HO.out B z _ j h;clear j h;have G:=qh W;clear W;have I:=qh hb;clear hb;go_wp2;go_roundw
  case rel=>exact⟨k+1,by omega,by go_num,by rw[J.out],G.out,I.out⟩
  simp[intOf];omega
 go_wp2_with fail
 have a6:k=max xs.length d.length+1:=by omega
 have ht:=z8d U C (z0p F xs d k).1 wr (by rw[z1i];exact HO.out.sl);rw[z1i] at ht;refine ht.mono ?_;rintro e w' ⟨m,hm,rfl,rfl⟩;have HM:=qh hm;clear hm;have b3:=qh a6;clear a6;go_wp2;go_ret;have S:=z6t hF sx sy k;refine⟨_,rfl,?_,O.out⟩;rw[<- b3.out,<- z4z S.1 HM.out.1 HM.out.2.1 HM.out.2.2];exact HO.out.take HM.out.1
theorem y9q (g:FuncId) (c:Array Value) (F:Nat->Nat->Nat->Nat × Nat) (M:Nat) (k j:Value) (xs h:List Nat) (w:World)
  (p:∀ args w,(callFunc g args).run prog w=.ok (.enter g args) w) (r:StepOk F M) (i:ClosOk g c F M w)
  (o:Sl w .u64 k xs) (l:Sl w .u64 j h) (sx:Small xs) (sy:Small h) (lx:xs.length<=100000) (s:h.length<=100000) :
  Calls prog 182 #[k,j,.func (.func g) #[] c] w (EachEnd (bval (z0p F xs h (max xs.length h.length+1)).1) w):=by
 rcases Nat.lt_or_ge xs.length h.length with d|d
 ·exact u2u g c F M k j xs h w p r i d o l sx sy s
 exact u2x g c F M k j xs h w p r i d o l sx sy lx
end
section
open Go.RowKit
def z7w (a b c:Nat):Nat × Nat:=((a+b+c) % 1000000000,(a+b+c) / 1000000000)
def z4p (a b c:Nat):Nat × Nat:=((a+1000000000-b-c) % 1000000000,1-(a+1000000000-b-c) / 1000000000)
def z3g (k:Nat) (a _b c:Nat):Nat × Nat:=((a*k+c) % 1000000000,(a*k+c) / 1000000000)
theorem v9c:StepOk z7w 1:=fun a b c d hb g=>by
 rw[z0u] at *;simp only[z7w];omega
theorem x2y:StepOk z4p 1:=fun a b c d hb g=>by
 rw[z0u] at *;simp only[z4p];omega
theorem x1j {a k c:Nat} (d:a<BB) (h:k<BB) (g:c<BB):a*k+c<1000000000*1000000000:=by
 rw[z0u] at *;have:a*k<=999999999*999999999:=Nat.mul_le_mul (by omega) (by omega);omega
theorem x5d {k:Nat} (g:k<BB):StepOk (z3g k) 999999999:=fun a b c d hb h=>by
 have:=x1j d g (show c<BB by rw[z0u];omega);simp only[z3g,z0u];exact⟨Nat.mod_lt _ (by omega),by omega⟩
theorem v5s (w:World):ClosOk 183 #[] z7w 1 w:=fun a b c wr _ d hb g=>by
 rw[z0u] at d hb;simp only[z7w]
 go_enter func183,ntmps183
 go_wp2;go_ret2;exact⟨rfl,rfl⟩
theorem v0i (w:World):ClosOk 190 #[] z4p 1 w:=fun a b c wr _ d hb g=>by
 rw[z0u] at d hb;simp only[z4p]
 go_enter func190,ntmps190
 go_wp2;go_ret2;exact⟨v7c (by omega) (by omega),rfl⟩
theorem x8e (k bx:Nat) (w:World) (l:k<BB) (d:bx<w.heap.size) (h:w.cell? ⟨bx,0,none⟩=some (.int .u64 (k:Int))) :
  ClosOk 212 #[.pointer (some ⟨bx,0,none⟩)] (z3g k) 999999999 w:=fun a b c wr hb j _ i=>by
 have r:=x1j j l (show c<BB by rw[z0u];omega);have g:=(hb.cell (p:=⟨bx,0,none⟩) d).trans h;have o:0<=(a:Int)*(k:Int):=Int.mul_nonneg (Int.natCast_nonneg _) (Int.natCast_nonneg _);have s:(a:Int)*(k:Int)+(c:Int)<1000000000000000000:=by rw[<- Int.natCast_mul];omega
 clear h r;simp only[z3g]
 go_enter func212,ntmps212
 go_wp2;go_ret2;exact⟨rfl,rfl⟩
theorem z3a {xs:List Nat} {k:Nat} (h:xs.length<=k):xs.take k=xs:=List.take_of_length_le h
theorem x9h (xs d:List Nat) (k:Nat):bval (z0p z7w xs d k).1+BB ^ k*(z0p z7w xs d k).2=bval (xs.take k)+bval (d.take k):=by
 induction k with
 | zero=>simp[z0p,bval]
 | succ k ih =>
  simp only[z0p];rw[z7e,z1i,z0n,z0n,Nat.pow_succ];generalize (z0p z7w xs d k).2=c at *;generalize bval (z0p z7w xs d k).1=l at *;generalize nth xs k=a;generalize nth d k=b;have h:(z7w a b c).1+BB*(z7w a b c).2=a+b+c:=by simp only[z7w,z0u];omega
  have g:BB ^ k*(a+b+c)=BB ^ k*(z7w a b c).1+BB ^ k*BB*(z7w a b c).2:=by rw[<- h,Nat.mul_add,<- Nat.mul_assoc]
  rw[Nat.mul_add,Nat.mul_add] at g;omega
theorem y6y (F:Nat->Nat->Nat->Nat × Nat) (xs c:List Nat) (k:Nat):(z0p F xs c (k+1)).2=(F (nth xs k) (nth c k) (z0p F xs c k).2).2:=rfl
theorem x4b {c:Nat} (h:c<=1):(z7w 0 0 c).2=0:=by simp only[z7w];omega
theorem v0y (xs c:List Nat) (k:Small xs) (i:Small c) (n:Nat) (d:xs.length<=n) (g:c.length<=n):bval (z0p z7w xs c (n+1)).1=bval xs+bval c:=by
 have h:=x9h xs c (n+1);rw[z3a (Nat.le_succ_of_le d),z3a (Nat.le_succ_of_le g)] at h;have j:(z0p z7w xs c (n+1)).2=0:=by
  rw[y6y,z1n xs _ d,z1n c _ g];exact x4b (z6t v9c k i n).2
 rw[j,Nat.mul_zero,Nat.add_zero] at h;exact h
theorem v8n (xs c:List Nat) (g:Small xs) (d:Small c):bval (z0p z7w xs c (max xs.length c.length+1)).1=bval xs+bval c :=
 v0y xs c g d _ (Nat.le_max_left _ _) (Nat.le_max_right _ _)
theorem x3i (xs d:List Nat) (i:Small xs) (g:Small d) (k:Nat):bval (z0p z4p xs d k).1+bval (d.take k)=bval (xs.take k)+BB ^ k*(z0p z4p xs d k).2:=by
 induction k with
 | zero=>simp[z0p,bval]
 | succ k ih =>
  have p:=(z6t x2y i g k).2;have o:=i k;have hb:=g k;simp only[z0p];rw[z7e,z1i,z0n,z0n,Nat.pow_succ];generalize (z0p z4p xs d k).2=c at *;generalize bval (z0p z4p xs d k).1=l at *;generalize nth xs k=a at *;generalize nth d k=b at *;have h:(z4p a b c).1+b+c=a+BB*(z4p a b c).2:=by rw[z0u] at *;simp only[z4p];omega
  have j:BB ^ k*((z4p a b c).1+b+c)=BB ^ k*a+BB ^ k*BB*(z4p a b c).2:=by rw[h,Nat.mul_add,<- Nat.mul_assoc]
  rw[Nat.mul_add,Nat.mul_add] at j;omega
theorem x7z (xs d:List Nat) (k:Small xs) (j:Small d) (p:bval d<=bval xs) (n:Nat) (r:xs.length<=n) (s:d.length<=n):bval (z0p z4p xs d n).1=bval xs-bval d:=by
 have h:=x3i xs d k j n;rw[z3a r,z3a s] at h;have g:=z6t x2y k j n;have i:=z4e g.1;rw[z1i] at i;generalize bval (z0p z4p xs d n).1=l at *;generalize (z0p z4p xs d n).2=c at *
 rcases Nat.eq_zero_or_pos c with o|o
 ·subst o;rw[Nat.mul_zero,Nat.add_zero] at h;omega
 have:c=1:=by have:=g.2;omega
 subst this;rw[Nat.mul_one] at h;omega
theorem x9n (xs c:List Nat) (g:Small xs) (h:Small c) (d:bval c<=bval xs):bval (z0p z4p xs c (max xs.length c.length+1)).1=bval xs-bval c :=
 x7z xs c g h d _ (Nat.le_succ_of_le (Nat.le_max_left _ _)) (Nat.le_succ_of_le (Nat.le_max_right _ _))
theorem x1q (m:Nat) (xs:List Nat) (k:Nat):bval (z0p (z3g m) xs [] k).1+BB ^ k*(z0p (z3g m) xs [] k).2=bval (xs.take k)*m:=by
 induction k with
 | zero=>simp[z0p,bval]
 | succ k ih =>
  simp only[z0p];rw[z7e,z1i,z0n,Nat.pow_succ,Nat.add_mul,Nat.mul_assoc (BB ^ k) (nth xs k) m];generalize (z0p (z3g m) xs [] k).2=c at *;generalize bval (z0p (z3g m) xs [] k).1=l at *;generalize nth xs k=a;have h:(z3g m a (nth [] k) c).1+BB*(z3g m a (nth [] k) c).2=a*m+c:=by simp only[z3g,z0u];omega
  have d:BB ^ k*(a*m+c)=BB ^ k*(z3g m a (nth [] k) c).1+BB ^ k*BB*(z3g m a (nth [] k) c).2:=by rw[<- h,Nat.mul_add,<- Nat.mul_assoc]
  rw[Nat.mul_add] at d;omega
theorem x7r {m:Nat} (g:m<BB) (xs:List Nat) (d:Small xs):bval (z0p (z3g m) xs [] (max xs.length ([]:List Nat).length+1)).1=bval xs*m:=by
 have h:=x1q m xs (max xs.length ([]:List Nat).length+1);rw[z3a (by omega)] at h;have c:(z0p (z3g m) xs [] (max xs.length ([]:List Nat).length+1)).2=0:=by
  have:=(z6t (x5d g) d z9a (max xs.length ([]:List Nat).length)).2;simp only[z0p,z3g];rw[z1n xs _ (by omega),Nat.zero_mul,Nat.zero_add];exact Nat.div_eq_of_lt (by omega)
 rw[c] at h;simpa using h
theorem EachEnd.of {n:Nat} {w:World} {e:Ending} {c:World} (h:EachEnd n w e c):∃ v,e=.returned v/\Own c w.heap.size 153 .u64 v (toB n)/\Below w.heap.size w c:=h
theorem enter46:∀ args w,(callFunc 183 args).run prog w=.ok (.enter 183 args) w:=fun args w=>by kernel_rfl
theorem enter52:∀ args w,(callFunc 190 args).run prog w=.ok (.enter 190 args) w:=fun args w=>by kernel_rfl
theorem enter63:∀ args w,(callFunc 212 args).run prog w=.ok (.enter 212 args) w:=fun args w=>by kernel_rfl
theorem v5u (g c:Value) (m n:Nat) (w:World) (i:Sl w .u64 g (toB m)) (h:Sl w .u64 c (toB n)) (lx:(toB m).length<=100000) (o:(toB n).length<=100000) :
  Calls prog 149 #[g,c] w (EachEnd (m+n) w):=by
 have d:=y9q 183 #[] z7w 1 g c (toB m) (toB n) w enter46 v9c (v5s w) i h (z1b m) (z1b n) lx o;rw[v8n _ _ (z1b m) (z1b n),z1h,z1h] at d;have l:=qh d;clear d i h
 go_enter func149,ntmps149
 go_wp2_with fail
 refine l.out.mono ?_;rintro e p ⟨v,rfl,j⟩;have k:=qh j;clear j;go_wp2;go_ret;exact⟨v,rfl,k.out⟩
theorem v5g (h d:Value) (m n:Nat) (w:World) (j:Sl w .u64 h (toB m)) (i:Sl w .u64 d (toB n)) (lx:(toB m).length<=100000) (p:(toB n).length<=100000) (c:n<=m) :
  Calls prog 152 #[h,d] w (EachEnd (m-n) w):=by
 have g:=y9q 190 #[] z4p 1 h d (toB m) (toB n) w enter52 x2y (v0i w) j i (z1b m) (z1b n) lx p;rw[x9n _ _ (z1b m) (z1b n) (by rw[z1h,z1h];exact c),z1h,z1h] at g;have o:=qh g;clear g j i
 go_enter func152,ntmps152
 go_wp2_with fail
 refine o.out.mono ?_;rintro e r ⟨v,rfl,k⟩;have l:=qh k;clear k;go_wp2;go_ret;exact⟨v,rfl,l.out⟩
theorem y7h (i:Value) (m k:Nat) (w:World) (d:k<BB) (l:Sl w .u64 i (toB m)) (lx:(toB m).length<=100000) :
  Calls prog 191 #[i,.int .u64 (k:Int)] w (EachEnd (m*k) w):=by
 have c:Below w.heap.size w (w.alloc (.cells #[.int .u64 (k:Int)] 153)):=(Below.refl _ _).alloc (Nat.le_refl _) _;have g:=y9q 212 #[.pointer (some ⟨w.heap.size,0,none⟩)] (z3g k) 999999999 i (.slice none 0 0) (toB m) [] (w.alloc (.cells #[.int .u64 (k:Int)] 153)) enter63 (x5d d)
  (x8e k w.heap.size _ d (by simp) (by simp)) (l.below c (Nat.le_refl _)) (Sl.nil _ _) (z1b m) z9a lx (by simp)
 rw[x7r d _ (z1b m),z1h] at g;have p:=qh g;clear g l;have h:=qh c;clear c
 go_enter func191,ntmps191
 go_wp2_with fail
 refine p.out.mono ?_;rintro e r ⟨v,rfl,o⟩;have j:=qh o;clear o;go_wp2;go_ret;exact⟨v,rfl,j.out.1.mono (by simp),h.out.trans (j.out.2.mono (by simp))⟩
end
end Go.Proofs.YtjekapjbigfkbaaGreatDoor
