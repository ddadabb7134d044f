/- Parts. -/
import Derived.Test.YtpldocnhbdlgfaaGreatDoorPb00
namespace Go.Proofs.YtpldocnhbdlgfaaGreatDoor
set_option maxRecDepth 100000
set_option linter.all false
set_option maxHeartbeats 16000000
open Go Tryz
section
open Go.RowKit
def Trimmed(xs:List Nat)(k:Nat):Prop:=k<=xs.length/\(∀j,k<=j->nth xs j=0)/\(k=0\/nth xs (k-1)≠0)
def TrimEnd(a:Option Addr)(cap:Nat)(xs:List Nat)(w:World)(e:Ending)(w':World):Prop:=∃k,Trimmed xs k/\e=.returned (.slice a k cap)/\w=w'
def EF(a:Option Addr)(cap:Nat)(xs:List Nat)(w:World)(h:Sl w .u64 (.slice a xs.length cap) xs):
  Calls prog 203 #[.slice a xs.length cap] w (TrimEnd a cap xs w):=by
 rcases h with⟨g,rfl⟩|⟨b,l,c,g,C,D,u,z⟩
 ·simp only[Value.slice.injEq]at g;obtain⟨rfl,_,rfl⟩:=g
  go_enter func203,ntmps203
  go_wp2
  go_loop [0] (λv=>v=.slice none 0 0) (λv=>lenV v)
  case atStart=>exact rfl
  obtain rfl:=hrel;go_wp2;go_ret;exact⟨0,⟨Nat.zero_le _,λj _=>AP [] j nzl,.inl rfl⟩,rfl,rfl⟩
 simp only[Value.slice.injEq,true_and]at g;obtain⟨rfl,rfl⟩:=g;unfold maxLen at u
 go_enter func203,ntmps203
 go_wp2
 go_loop [0] (λv=>∃k:Nat,k<=xs.length/\v=.slice (some (Ad b l)) k cap/\∀j,k<=j->nth xs j=0) (λv=>lenV v)
 case atStart=>exact⟨xs.length,nlr,rfl,λj o=>AP xs j o⟩
 obtain⟨k,p,rfl,i⟩:=hrel;replace i:=qh i;by_cases s:k=0
 ·subst s;go_wp2;go_ret;exact⟨0,⟨p,i.o,.inl rfl⟩,rfl,rfl⟩
 obtain⟨m,rfl⟩:∃m,k=m+1:=⟨k-1,by omega⟩;have A:=z m (by omega);by_cases d:nth xs m=0
 ·replace d:=qh d;rw[d.o]at A;go_wp2
  go_round
  case rel=>exact⟨m,by omega,rfl,λj o=>by
   by_cases e:j=m
   ·rw[e];exact d.o
   exact i.o j (by omega)⟩
  simp[lenV]
 replace d:=qh d;have B:(((nth xs m:Nat):Int)==0)=false:=by rw[beq_eq_false_iff_ne];have:=d.o;omega
 go_wp2;go_ret;exact⟨m+1,⟨p,i.o,.inr d.o⟩,rfl,rfl⟩
variable{xs:List Nat}{k n x:Nat}
def Lv:∃b:Nat,b=1000000000:=⟨_,rfl⟩
noncomputable def BB:Nat:=Classical.choose Lv
theorem Ap:BB=1000000000:=Classical.choose_spec Lv
def AL:0<BB:=by rw[Ap];omega
def EI:1<BB:=by rw[Ap];omega
noncomputable def bval:List Nat->Nat | []=>0|x::xs=>x+BB*bval xs
def Small(xs:List Nat):Prop:=∀i,nth xs i<BB
def Gs:Small []:=λi=>by rw[AP _ _ nzl];exact AL
theorem JZ(x:Nat)(xs:List Nat):nth (x::xs) 0=x:=rfl
theorem Hu(x:Nat)(xs:List Nat)(i:Nat):nth (x::xs) (i+1)=nth xs i:=rfl
def FU(xs c:List Nat)(i:Nat)(h:i<xs.length):nth (xs++c) i=nth xs i:=by simp[nth,List.getD_eq_getElem?_getD,List.getElem?_append_left h]
theorem FV(xs c:List Nat)(i:Nat)(h:xs.length<=i):nth (xs++c) i=nth c (i-xs.length):=by simp[nth,List.getD_eq_getElem?_getD,List.getElem?_append_right h]
theorem KN:Small (x::xs)↔x<BB/\Small xs :=
 ⟨λh=>⟨h 0,λi=>h (i+1)⟩,λ⟨c,d⟩ i=>by cases i with
  |zero=>exact c
  |succ i=>exact d i⟩
def Ir(h:Small xs)(d:x<BB):Small (xs++[x]):=λi=>by
 by_cases c:i<xs.length
 ·rw[FU _ _ _ c];exact h i
 rw[FV _ _ _ (by omega)];cases i-xs.length with
 |zero=>exact d
 |succ j=>exact AL
def Ez(h:Small xs)(k:Nat):Small (xs.take k):=λi=>by
 by_cases c:i<k
 ·rw[Fg _ _ _ c];exact h i
 rw[AP _ _ (by rw[List.length_take];omega)];exact AL
theorem EK(xs c:List Nat):bval (xs++c)=bval xs+BB ^ xs.length*bval c:=by
 induction xs with
 |nil=>simp[bval]
 |cons x xs ih=>simp only[List.cons_append,bval,ih,List.length_cons,Nat.pow_succ];rw[Nat.mul_add,Nat.mul_comm (BB ^ xs.length) BB,Nat.mul_assoc];omega
theorem EL(xs:List Nat)(x:Nat):bval (xs++[x])=bval xs+BB ^ xs.length*x:=by rw[EK];simp[bval]
theorem By(xs:List Nat)(k:Nat):bval (xs.take (k+1))=bval (xs.take k)+BB ^ k*nth xs k:=by
 by_cases h:k<xs.length
 ·rw[Iy xs k h,EL,List.length_take,Nat.min_eq_left (by omega)]
 rw[List.take_of_length_le (by omega),List.take_of_length_le (by omega),AP xs k (by omega)];simp
def Ca(h:Small xs):bval xs<BB ^ xs.length:=by
 induction xs with
 |nil=>simp[bval]
 |cons x xs ih =>
  obtain⟨g,c⟩:=KN.1 h;have:=ih c;simp only[bval,List.length_cons,Nat.pow_succ];have d:BB*(bval xs+1)<=BB*BB ^ xs.length:=Nat.mul_le_mul_left _ this;rw[Nat.mul_comm (BB ^ xs.length)];rw[Nat.mul_add]at d;omega
def Me(h:∀i,nth xs i=0):bval xs=0:=by
 induction xs with
 |nil=>rfl
 |cons x xs ih=>simp only[bval];rw[ih (λi=>h (i+1)),show x=0 from h 0];simp
noncomputable def toBf:Nat->Nat->List Nat
 |0,_=>[]
 |f+1,n=>if n=0 then [] else n % BB::toBf f (n / BB)
noncomputable def toB(n:Nat):List Nat:=toBf n n
def XU:∀(f g n:Nat),n<=f->n<=g->toBf f n=toBf g n:=by
 intro f
 induction f with
 |zero =>
      intro g n h _;have:n=0:=by omega
      subst this;cases g<;>simp[toBf]
 |succ f ih =>
  intro g n d i;by_cases c:n=0
  ·subst c;cases g<;>simp[toBf]
  cases g with
  |zero=>omega
  |succ g =>
   simp only[toBf,ifn c];have:n / BB<n:=Nat.div_lt_self (by omega) EI;rw[ih g (n / BB) (by omega) (by omega)]
theorem ID:toB 0=[]:=rfl
def EC(h:n≠0):toB n=n % BB::toB (n / BB):=by
 unfold toB;cases n with
 |zero=>exact absurd rfl h
 |succ n =>
  have:(n+1) / BB<n+1:=Nat.div_lt_self (by omega) EI;simp only[toBf,ifn h];rw[XU n ((n+1) / BB) ((n+1) / BB) (by omega) (by omega)]
theorem AX(n:Nat):bval (toB n)=n:=by
 induction n using Nat.strongRecOn with
 |ind n ih =>
  by_cases h:n=0
  ·subst h;rfl
  rw[EC h];simp only[bval];rw[ih (n / BB) (Nat.div_lt_self (by omega) EI)];exact Nat.mod_add_div n BB
def AW(n:Nat):Small (toB n):=by
 induction n using Nat.strongRecOn with
 |ind n ih =>
  by_cases h:n=0
  ·subst h;exact Gs
  rw[EC h];exact KN.2 ⟨Nat.mod_lt _ AL,ih (n / BB) (Nat.div_lt_self (by omega) EI)⟩
def XS:∀{xs:List Nat},Small xs->(xs=[]\/nth xs (xs.length-1)≠0)->toB (bval xs)=xs:=by
 intro xs
 induction xs with
 |nil=>intro _ _;rfl
 |cons x xs ih =>
  intro m o;obtain⟨i,p⟩:=KN.1 m;have g:nth (x::xs) xs.length≠0:=by
   rcases o with h|h
   ·simp at h
   simpa using h
  have hi:xs=[]\/nth xs (xs.length-1)≠0:=by
   cases xs with
   |nil=>exact .inl rfl
   |cons y ys=>exact .inr (by simpa [Hu] using g)
  have c:=ih p hi;have d:bval (x::xs)≠0:=by
   cases xs with
   |nil =>
        simp only[bval];have:x≠0:=g;omega
   |cons y ys =>
    intro e;simp only[bval]at e;have l:bval (y::ys)=0:=by
     simp only[bval];have:=AL
     rcases Nat.eq_zero_or_pos (y+BB*bval ys) with h|h
     ·exact h
     have:0<BB*(y+BB*bval ys):=Nat.mul_pos AL h;omega
    rw[l]at c;simp[ID]at c
  rw[EC d];have j:bval (x::xs) % BB=x:=by simp only[bval];rw[Nat.add_mul_mod_self_left,Nat.mod_eq_of_lt i]
  have k:bval (x::xs) / BB=bval xs:=by simp only[bval];rw[Nat.add_mul_div_left _ _ AL,Nat.div_eq_of_lt i,Nat.zero_add]
  rw[j,k,c]
theorem IC(h:n≠0):nth (toB n) ((toB n).length-1)≠0:=by
 induction n using Nat.strongRecOn with
 |ind n ih =>
  rw[EC h];by_cases c:n / BB=0
  ·rw[c,ID];show n % BB≠0;have:=Nat.mod_add_div n BB;rw[c]at this;omega
  have:=ih (n / BB) (Nat.div_lt_self (by omega) EI) c;have d:1<=(toB (n / BB)).length:=by rw[EC c];simp
  rw[List.length_cons,show (toB (n / BB)).length+1-1=((toB (n / BB)).length-1)+1 by omega,Hu];exact this
def Eg(h:n≠0):1<=(toB n).length:=by rw[EC h];simp
def GA(h:n<BB ^ k):(toB n).length<=k:=by
 induction k generalizing n with
 |zero =>
      have:n=0:=by simp at h;exact h
      subst this;simp[ID]
 |succ k ih =>
  by_cases c:n=0
  ·subst c;simp[ID]
  rw[EC c];have:n / BB<BB ^ k:=Nat.div_lt_of_lt_mul (by rw[Nat.pow_succ,Nat.mul_comm]at h;exact h);have:=ih this;simp;omega
def XT(h:n≠0):BB ^ ((toB n).length-1)<=n:=by
 have c:=AX n;have g:=IC h;have i:=Eg h;have d:=By (toB n) ((toB n).length-1);rw[show (toB n).length-1+1=(toB n).length by omega,List.take_length,c]at d;have:BB ^ ((toB n).length-1)*1<=BB ^ ((toB n).length-1)*nth (toB n) ((toB n).length-1):=Nat.mul_le_mul_left _ (by omega);omega
def Ef{m:Nat}(h:m<=n):(toB m).length<=(toB n).length :=
 GA (Nat.lt_of_le_of_lt h (by have:=Ca<|AW n;rw[AX]at this;exact this))
def PQ(c:∀j,k<=j->nth xs j=0):bval (xs.take k)=bval xs:=by
 have h:=EK (xs.take k) (xs.drop k);rw[List.take_append_drop]at h;rw[h,Me (xs:=xs.drop k) (λi=>by
  have:nth (xs.drop k) i=nth xs (k+i):=by simp[nth,List.getD_eq_getElem?_getD]
  rw[this];exact c _ (by omega))]
 simp
def Ft(h:Small xs)(g:k<=xs.length)(i:∀j,k<=j->nth xs j=0)(c:k=0\/nth xs (k-1)≠0):xs.take k=toB (bval xs):=by
 rw[<-PQ i]
 symm
 apply XS (Ez h k)
 rcases c with rfl|c
 ·left;simp
 by_cases d:k=0
 ·subst d;left;simp
 right;rw[List.length_take,Nat.min_eq_left g,Fg _ _ _ (by omega)];exact c
variable{s t:ByteArray}{l:List Nat}
def seg(t:ByteArray)(c i:Nat):Nat:=num<|((bts t).take i).drop c
theorem WW(t:ByteArray)(c:Nat):seg t c c=0:=by unfold seg;rw[List.drop_of_length_le (by rw[List.length_take];omega)];rfl
def WX(t:ByteArray)(c i:Nat)(d:c<=i)(h:i<t.size):seg t c (i+1)=10*seg t c i+(t[i].toNat-48):=by
 unfold seg;rw[EB t i h,List.drop_append_of_le_length (by rw[List.length_take,Aq];omega),Dq]
theorem Ms{l:List UInt8}(h:dgts l=true)(a b:Nat):dgts ((l.take a).drop b)=true:=by
 unfold dgts at *;rw[List.all_eq_true]at *;exact λx c=>h x (List.mem_of_mem_take (List.mem_of_mem_drop c))
def seg_lt(t:ByteArray)(c i:Nat)(h:dgts (bts t)=true)(hi:i<=c+9):seg t c i<1000000000:=by
 have d:=Ka _ (Ms h i c);have:(((bts t).take i).drop c).length<=9:=by rw[List.length_drop,List.length_take];omega
 have g:10 ^ (((bts t).take i).drop c).length<=10 ^ 9:=Nat.pow_le_pow_right (by omega) this;unfold seg;omega
def US(l r:List UInt8):num (l++r)=num l*10 ^ r.length+num r:=by
 suffices h:∀(k:Nat) (r:List UInt8),r.length=k->num (l++r)=num l*10 ^ r.length+num r from h _ r rfl
 intro k
 induction k with
 |zero =>
      intro r h;have:r=[]:=List.length_eq_zero_iff.1 h;subst this;simp[num]
 |succ k ih =>
  intro r h;obtain⟨m,c,rfl⟩:=Hm r (by intro e;subst e;simp at h);simp at h;rw[<-List.append_assoc,Dq,Dq,ih m h,List.length_append,List.length_singleton,Nat.pow_succ,Nat.mul_add,<-Nat.mul_assoc,<-Nat.mul_assoc,Nat.mul_comm (num l*10 ^ m.length) 10,<-Nat.mul_assoc];omega
def UT(t:ByteArray)(c:Nat):num (bts t)=num ((bts t).take c)*10 ^ ((bts t).length-c)+seg t c t.size:=by
 have h:=US ((bts t).take c) ((bts t).drop c);rw[List.take_append_drop,List.length_drop]at h;have e:seg t c t.size=num ((bts t).drop c):=by unfold seg;rw[List.take_of_length_le (by rw[Aq];omega)]
 rw[e];exact h
theorem pow9(k:Nat):10 ^ (9*k)=BB ^ k:=by rw[Nat.pow_mul,Ap]
structure BlkInv(s t:ByteArray)(l:List Nat):Prop where
 small:Small l
 dig:dgts (bts t)=true
 val:num (bts s)=num (bts t)*BB ^ l.length+bval l
 len:t.size<=1000/\(t.size=0\/t.size+9*l.length=s.size)
def BlkInv.step(h:BlkInv s t l)(c:Nat)(j:c=t.size-9)(g:0<t.size):BlkInv s (t.extract 0 c) (l++[seg t c t.size]):=by
 have hb:bts (t.extract 0 c)=(bts t).take c:=by
  have:=Lib.extract_data t 0 c;unfold bts;rw[this];simp
 have d:(t.extract 0 c).size=c:=by rw[<-Aq,hb,List.length_take,Aq];omega
 refine⟨Ir h.small (by rw[Ap];exact seg_lt t c t.size h.dig (by omega)),?_,?_,?_⟩
 ·rw[hb];have:=Ms h.dig c 0;simpa using this
 ·rw[h.val,EL,hb,UT t c,List.length_append,List.length_singleton];by_cases i:9<=t.size
  ·rw[show (bts t).length-c=9*1 by rw[Aq];omega,pow9,Nat.pow_succ BB l.length,Nat.pow_one,Nat.add_mul,Nat.mul_assoc,Nat.mul_comm BB (BB ^ l.length),Nat.mul_comm (seg t c t.size)];omega
  have:c=0:=by omega
  subst this;simp only[List.take_zero,show num []=0 from rfl,Nat.zero_mul,Nat.zero_add];rw[Nat.mul_comm];omega
 rw[d,List.length_append,List.length_singleton];have:=h.len;omega
def BlkInv.done(h:BlkInv s t l)(c:t.size=0):bval l=num (bts s):=by
 have:bts t=[]:=List.length_eq_zero_iff.1 (by rw[Aq];exact c);rw[h.val,this];simp[num]
theorem FM:(prog.info? 196).map (λi=>(i.zero,i.size,i.bytes))=some (some (.int .u64 0),1,8):=by kernel_rfl
def BlocksEnd(n:Nat)(w:World)(e:Ending)(w':World):Prop:=∃v,e=.returned v/\Own w' w.heap.size 196 .u64 v (toB n)/\Below w.heap.size w w'
def Rs(s:ByteArray)(w:World)(Q:s.size<=1000)(hd:dgts (bts s)=true):
  Calls prog 201 #[.string s] w (BlocksEnd (num (bts s)) w):=by
 obtain⟨i0,hi,J,K,L⟩:=info_parts FM;have B:BlkInv s s []:=⟨Gs,hd,by simp[bval],Q,.inr (by simp)⟩;clear hd Q;have N:=qh B;clear B
 go_enter func201,ntmps201
 go_wp2
 go_loopw [0,3] (λa v wr=>∃t l,a=.string t/\BlkInv s t l/\Own wr w.heap.size 196 .u64 v l/\Below w.heap.size w wr)
  (λa _ _=>strV a)
 case atStart=>exact⟨s,[],rfl,N.o,Own.nil _ _ _ _,blr⟩
 obtain⟨t,l,rfl,d,g,hb⟩:=hrel;obtain⟨R,F,rfl⟩:=g.shape;have o:=qh d.dig;have P:=d.len.1;replace d:=qh d;replace g:=qh g;have D:=qh hb;clear hb;by_cases B:t.size=0
 ·go_wp2_with fail
  refine(EF R F l wr g.o.sl).mono ?_;rintro e w'⟨k,z,rfl,rfl⟩;replace z:=qh z;go_wp2;go_ret;refine⟨_,rfl,?_,D.o⟩;rw[<-d.o.done B,<-Ft d.o.small z.o.1 z.o.2.1 z.o.2.2];exact g.o.take z.o.1
 have O:0<t.size:=by omega
 obtain⟨c,m⟩:=exq<|t.size-9;replace m:=qh m
 rcases Nat.lt_or_ge t.size 10 with T|T
 all_goals
  go_wp2
  go_loop [5,6] (λn i=>∃k:Nat,c<=k/\k<=t.size/\i=.int .i64 k/\n=.int .u64 (seg t c k:Nat)) (λ_ i=>t.size-(intOf i).toNat)
  case atStart=>exact⟨c,nlr,by have:=m.o;omega,by have:=m.o;go_num,by rw[WW];rfl⟩
  obtain⟨k,H,X,rfl,rfl⟩:=hrel;by_cases u:k<t.size
  ·have Z:=seg_lt t c k o.o (by have:=m.o;omega);have hd:=Jm o.o k (by rw[Aq];exact u);rw[Ja t k u]at hd;have U:(48:Int)<=(t[k].toNat:Int):=by omega
   have W:(t[k].toNat:Int)<=57:=by omega
   clear hd;go_wp2
   go_round
   case rel=>exact⟨k+1,by omega,by omega,by go_num,by rw[WX t c k H u];go_num⟩
   simp[intOf];omega
  have Y:l.length<=1000:=by have:=d.o.len.2;have:=d.o.step c m.o O;have:=N.o.len.1;omega
  have I:=D.o.size
  go_wp2_with (at_builtin;refine wpList_append_own _ rfl (.tmp 29) (.tmp 31) 210 rfl w.heap.size 196 i0 (.int .u64 0) 1 8 underlying210 hi J K L rfl (by decide) _ _ _ rfl (World.ownsRow.alloc g.o.raw _) (Ad wr.heap.size 0) 1 1 [.int .u64 (seg t c k:Nat)] rfl rfl (cell_one_new _ _ _) (one_cell _ _) (by unfold maxLen;omega) (by omega) (by simp;omega) ?_;intro v' w1 j h _)
  obtain⟨C,hb⟩:=g.o.appended D.o I j h;clear j h;replace C:=qh C;have E:=qh hb;clear hb;have p:k=t.size:=by omega
  replace p:=qh p;go_wp2;go_roundw
  case rel =>
   have A:=d.o.step c m.o O;rw[p.o]at C;refine⟨_,_,rfl,?_,C.o,E.o⟩;have G:=m.o
   first
    |(rw[<-G];exact A)
    |(
      have e:c=0:=by omega
      have S:t.extract 0 c=ByteArray.empty:=by rw[e];simp
      rw[<-S];exact A)
  simp only[Xs,ByteArray.size_extract,ByteArray.size_empty];omega
def Ac(F:Nat->Nat->Nat->Nat × Nat)(xs ys:List Nat):Nat->List Nat × Nat
 |0=>([],0)
 |k+1=>((Ac F xs ys k).1++[(F (nth xs k) (nth ys k) (Ac F xs ys k).2).1],(F (nth xs k) (nth ys k) (Ac F xs ys k).2).2)
theorem Bt(F:Nat->Nat->Nat->Nat × Nat)(xs c:List Nat)(k:Nat):(Ac F xs c k).1.length=k:=by
 induction k with
 |zero=>rfl
 |succ k ih=>simp[Ac,ih]
def StepOk(F:Nat->Nat->Nat->Nat × Nat)(M:Nat):Prop:=∀a b c,a<BB->b<BB->c<=M->(F a b c).1<BB/\(F a b c).2<=M
def DV{F:Nat->Nat->Nat->Nat × Nat}{M:Nat}(d:StepOk F M){xs c:List Nat}(g:Small xs)(h:Small c)(k:Nat):Small (Ac F xs c k).1/\(Ac F xs c k).2<=M:=by
 induction k with
 |zero=>exact⟨Gs,Nat.zero_le _⟩
 |succ k ih=>exact⟨Ir ih.1 (d _ _ _ (g k) (h k) ih.2).1,(d _ _ _ (g k) (h k) ih.2).2⟩
def ClosOk(g:FuncId)(caps:Array Value)(F:Nat->Nat->Nat->Nat × Nat)(M:Nat)(w:World):Prop :=
 ∀(a b c:Nat) (wr:World),Below w.heap.size w wr->a<BB->b<BB->c<=M ->
  Calls prog g (#[.int .u64 (a:Int),.int .u64 (b:Int),.int .u64 (c:Int)]++caps) wr λe w'=>e=.returned (.tuple #[.int .u64 ((F a b c).1:Nat),.int .u64 ((F a b c).2:Nat)])/\wr=w'
def EachEnd(n:Nat)(w:World)(e:Ending)(w':World):Prop:=∃v,e=.returned v/\Own w' w.heap.size 196 .u64 v (toB n)/\Below w.heap.size w w'
def SX(g:FuncId)(Y:Array Value)(F:Nat->Nat->Nat->Nat × Nat)(M:Nat)(vx vy:Value)(xs d:List Nat)(w:World)
  (he:∀args w,(callFunc g args).run prog w=.ok (.enter g args) w) (hF:StepOk F M) (R:ClosOk g Y F M w)
  (b6:xs.length<d.length) (hx:Sl w .u64 vx xs) (hy:Sl w .u64 vy d) (sx:Small xs) (sy:Small d) (ly:d.length<=100000) :
  Calls prog 241 #[vx,vy,.func (.func g) #[] Y] w (EachEnd (bval (Ac F xs d (max xs.length d.length+1)).1) w):=by
 obtain⟨i0,hi,a6,a7,a8⟩:=info_parts FM;obtain⟨ax,cx,bx,ox,rfl,U,b4,b1,b3,A⟩:=hx.open;obtain⟨ay,cy,a9,oy,rfl,Q,b5,b2,b0,u⟩:=hy.open;unfold maxLen at b1 b2;replace R:=qh R;clear hx hy
 go_enter func241,ntmps241
 go_wp2
 go_loopw [7,8,19] (λv c i wr=>∃k:Nat,k<=max xs.length d.length+1/\i=.int .i64 k/\c=.int .u64 ((Ac F xs d k).2:Nat)/\Own wr w.heap.size 196 .u64 v (Ac F xs d k).1/\Below w.heap.size w wr)
  (λ_ _ i _=>max xs.length d.length+1-(intOf i).toNat)
 case atStart=>exact⟨0,Nat.zero_le _,rfl,rfl,Own.nil _ _ _ _,blr⟩
 obtain⟨k,hk,rfl,rfl,s,hb⟩:=hrel;obtain⟨X,C,rfl⟩:=s.shape;rw[Bt]at s;rw[Bt];replace s:=qh s;have H:=qh hb;clear hb;have a5:=H.o.size;by_cases b7:k<max xs.length d.length+1
 ·have W:=DV hF sx sy k;have a2:=qh W;clear W;have a1:Hd (wr.ownsRow w.heap.size 196 1 (.slice X k C) k (vals .u64 (Ac F xs d k).1)):=qh (by have:=s.o.raw;rw[Bt]at this;exact this)
  rcases Nat.lt_or_ge k d.length with T|T
  rcases Nat.lt_or_ge k xs.length with S|S
  rotate_left 2
  obtain S:xs.length<=k:=by omega
  rotate_left 1
  ·
   obtain rfl:=U<|Nat.lt_of_le_of_lt nzl S;have c1:=(H.o.cell (p:=(Ad bx (ox+k))) (b3 (Nat.lt_of_le_of_lt nzl S))).trans (A k S);obtain rfl:=Q<|Nat.lt_of_le_of_lt nzl T;have c2:=(H.o.cell (p:=(Ad a9 (oy+k))) (b0 (Nat.lt_of_le_of_lt nzl T))).trans (u k T);have j:=R.o (nth xs k) (nth d k) (Ac F xs d k).2 wr H.o (sx k) (sy k) a2.o.2;have D:Own wr w.heap.size 196 .u64 (.slice X k C) (Ac F xs d k).1->∀(E:Value) (B:World) (o:Obj),B.ownsRow w.heap.size 196 1 E (k+1) (vals .u64 (Ac F xs d k).1++[.int .u64 ((F (nth xs k) (nth d k) (Ac F xs d k).2).1:Nat)])->(wr.alloc o).grownBy B (Value.slice X k C).ownBlock->Own B w.heap.size 196 .u64 E (Ac F xs d (k+1)).1/\Below w.heap.size w B:=λN E B o O P=>by
    have:=N.appended H.o a5 (by rw[Bt];exact O) P;simp only[Ac];exact this
   have z:(Ac F xs d (k+1)).2=(F (nth xs k) (nth d k) (Ac F xs d k).2).2:=by simp only[Ac]
   have J:=qh j;clear j;have G:=qh D;clear D;have K:=qh z;clear z;clear U Q A u
   go_wp2_with fail
   refine J.o.mono ?_;rintro e w'⟨rfl,rfl⟩
   go_wp2_with (at_builtin;refine wpList_append_own _ rfl (.tmp 46) (.tmp 48) 210 rfl w.heap.size 196 i0 (.int .u64 0) 1 8 underlying210 hi a6 a7 a8 rfl (by decide) _ _ _ rfl (World.ownsRow.alloc a1.o _) (Ad wr.heap.size 0) 1 1 [.int .u64 ((F (nth xs k) (nth d k) (Ac F xs d k).2).1:Nat)] rfl rfl (cell_one_new _ _ _) (one_cell _ _) (by unfold maxLen;omega) (by omega) (by simp;omega) ?_;intro E B l h _)
   obtain⟨Z,hb⟩:=G.o s.o E B _ l h;clear l h;have L:=qh Z;clear Z;have I:=qh hb;clear hb;go_wp2;go_roundw
   case rel=>exact⟨k+1,by omega,by go_num,by rw[K.o],L.o,I.o⟩
   simp[intOf];omega
  ·
   obtain rfl:=Q<|Nat.lt_of_le_of_lt nzl T;have c2:=(H.o.cell (p:=(Ad a9 (oy+k))) (b0 (Nat.lt_of_le_of_lt nzl T))).trans (u k T);have j:=R.o 0 (nth d k) (Ac F xs d k).2 wr H.o AL (sy k) a2.o.2;have D:Own wr w.heap.size 196 .u64 (.slice X k C) (Ac F xs d k).1->∀(E:Value) (B:World) (o:Obj),B.ownsRow w.heap.size 196 1 E (k+1) (vals .u64 (Ac F xs d k).1++[.int .u64 ((F 0 (nth d k) (Ac F xs d k).2).1:Nat)])->(wr.alloc o).grownBy B (Value.slice X k C).ownBlock->Own B w.heap.size 196 .u64 E (Ac F xs d (k+1)).1/\Below w.heap.size w B:=λN E B o O P=>by
    have:=N.appended H.o a5 (by rw[Bt];exact O) P;simp only[Ac];rw[AP xs k S];exact this
   have z:(Ac F xs d (k+1)).2=(F 0 (nth d k) (Ac F xs d k).2).2:=by simp only[Ac];rw[AP xs k S]
   have J:=qh j;clear j;have G:=qh D;clear D;have K:=qh z;clear z;clear U Q A u
   go_wp2_with fail
   refine J.o.mono ?_;rintro e w'⟨rfl,rfl⟩
   go_wp2_with (at_builtin;refine wpList_append_own _ rfl (.tmp 46) (.tmp 48) 210 rfl w.heap.size 196 i0 (.int .u64 0) 1 8 underlying210 hi a6 a7 a8 rfl (by decide) _ _ _ rfl (World.ownsRow.alloc a1.o _) (Ad wr.heap.size 0) 1 1 [.int .u64 ((F 0 (nth d k) (Ac F xs d k).2).1:Nat)] rfl rfl (cell_one_new _ _ _) (one_cell _ _) (by unfold maxLen;omega) (by omega) (by simp;omega) ?_;intro E B l h _)
   obtain⟨Z,hb⟩:=G.o s.o E B _ l h;clear l h;have L:=qh Z;clear Z;have I:=qh hb;clear hb;go_wp2;go_roundw
   case rel=>exact⟨k+1,by omega,by go_num,by rw[K.o],L.o,I.o⟩
   simp[intOf];omega
  have j:=R.o 0 0 (Ac F xs d k).2 wr H.o AL AL a2.o.2;have D:Own wr w.heap.size 196 .u64 (.slice X k C) (Ac F xs d k).1->∀(E:Value) (B:World) (o:Obj),B.ownsRow w.heap.size 196 1 E (k+1) (vals .u64 (Ac F xs d k).1++[.int .u64 ((F 0 0 (Ac F xs d k).2).1:Nat)])->(wr.alloc o).grownBy B (Value.slice X k C).ownBlock->Own B w.heap.size 196 .u64 E (Ac F xs d (k+1)).1/\Below w.heap.size w B:=λN E B o O P=>by
   have:=N.appended H.o a5 (by rw[Bt];exact O) P;simp only[Ac];rw[AP xs k S,AP d k T];exact this
  have z:(Ac F xs d (k+1)).2=(F 0 0 (Ac F xs d k).2).2:=by simp only[Ac];rw[AP xs k S,AP d k T]
  have J:=qh j;clear j;have G:=qh D;clear D;have K:=qh z;clear z;clear U Q A u
  go_wp2_with fail
  refine J.o.mono ?_;rintro e w'⟨rfl,rfl⟩
  go_wp2_with (at_builtin;refine wpList_append_own _ rfl (.tmp 46) (.tmp 48) 210 rfl w.heap.size 196 i0 (.int .u64 0) 1 8 underlying210 hi a6 a7 a8 rfl (by decide) _ _ _ rfl (World.ownsRow.alloc a1.o _) (Ad wr.heap.size 0) 1 1 [.int .u64 ((F 0 0 (Ac F xs d k).2).1:Nat)] rfl rfl (cell_one_new _ _ _) (one_cell _ _) (by unfold maxLen;omega) (by omega) (by simp;omega) ?_;intro E B l h _)
  obtain⟨Z,hb⟩:=G.o s.o E B _ l h;clear l h;have L:=qh Z;clear Z;have I:=qh hb;clear hb;go_wp2;go_roundw
  case rel=>exact⟨k+1,by omega,by go_num,by rw[K.o],L.o,I.o⟩
  simp[intOf];omega
 go_wp2_with fail
 have a4:k=max xs.length d.length+1:=by omega
 have ht:=EF X C (Ac F xs d k).1 wr (by rw[Bt];exact s.o.sl);rw[Bt]at ht;refine ht.mono ?_;rintro e w'⟨m,hm,rfl,rfl⟩;replace hm:=qh hm;replace a4:=qh a4;go_wp2;go_ret;have W:=DV hF sx sy k;refine⟨_,rfl,?_,H.o⟩;rw[<-a4.o,<-Ft W.1 hm.o.1 hm.o.2.1 hm.o.2.2];exact s.o.take hm.o.1
def SV(g:FuncId)(Y:Array Value)(F:Nat->Nat->Nat->Nat × Nat)(M:Nat)(vx vy:Value)(xs d:List Nat)(w:World)
  (he:∀args w,(callFunc g args).run prog w=.ok (.enter g args) w) (hF:StepOk F M) (R:ClosOk g Y F M w)
  (b6:d.length<=xs.length) (hx:Sl w .u64 vx xs) (hy:Sl w .u64 vy d) (sx:Small xs) (sy:Small d) (lx:xs.length<=100000) :
  Calls prog 241 #[vx,vy,.func (.func g) #[] Y] w (EachEnd (bval (Ac F xs d (max xs.length d.length+1)).1) w):=by
 obtain⟨i0,hi,a6,a7,a8⟩:=info_parts FM;obtain⟨ax,cx,bx,ox,rfl,Q,b4,b0,a9,u⟩:=hx.open;obtain⟨ay,cy,b2,oy,rfl,U,b5,b1,b3,A⟩:=hy.open;unfold maxLen at b0 b1;replace R:=qh R;clear hx hy
 go_enter func241,ntmps241
 go_wp2
 go_loopw [7,8,19] (λv c i wr=>∃k:Nat,k<=max xs.length d.length+1/\i=.int .i64 k/\c=.int .u64 ((Ac F xs d k).2:Nat)/\Own wr w.heap.size 196 .u64 v (Ac F xs d k).1/\Below w.heap.size w wr)
  (λ_ _ i _=>max xs.length d.length+1-(intOf i).toNat)
 case atStart=>exact⟨0,Nat.zero_le _,rfl,rfl,Own.nil _ _ _ _,blr⟩
 obtain⟨k,hk,rfl,rfl,s,hb⟩:=hrel;obtain⟨X,C,rfl⟩:=s.shape;rw[Bt]at s;rw[Bt];replace s:=qh s;have H:=qh hb;clear hb;have a5:=H.o.size;by_cases b7:k<max xs.length d.length+1
 ·have W:=DV hF sx sy k;have a2:=qh W;clear W;have a1:Hd (wr.ownsRow w.heap.size 196 1 (.slice X k C) k (vals .u64 (Ac F xs d k).1)):=qh (by have:=s.o.raw;rw[Bt]at this;exact this)
  rcases Nat.lt_or_ge k xs.length with S|S
  rcases Nat.lt_or_ge k d.length with T|T
  rotate_left 2
  obtain T:d.length<=k:=by omega
  rotate_left 1
  ·
   obtain rfl:=Q<|Nat.lt_of_le_of_lt nzl S;have c1:=(H.o.cell (p:=(Ad bx (ox+k))) (a9 (Nat.lt_of_le_of_lt nzl S))).trans (u k S);obtain rfl:=U<|Nat.lt_of_le_of_lt nzl T;have c2:=(H.o.cell (p:=(Ad b2 (oy+k))) (b3 (Nat.lt_of_le_of_lt nzl T))).trans (A k T);have j:=R.o (nth xs k) (nth d k) (Ac F xs d k).2 wr H.o (sx k) (sy k) a2.o.2;have D:Own wr w.heap.size 196 .u64 (.slice X k C) (Ac F xs d k).1->∀(E:Value) (B:World) (o:Obj),B.ownsRow w.heap.size 196 1 E (k+1) (vals .u64 (Ac F xs d k).1++[.int .u64 ((F (nth xs k) (nth d k) (Ac F xs d k).2).1:Nat)])->(wr.alloc o).grownBy B (Value.slice X k C).ownBlock->Own B w.heap.size 196 .u64 E (Ac F xs d (k+1)).1/\Below w.heap.size w B:=λN E B o O P=>by
    have:=N.appended H.o a5 (by rw[Bt];exact O) P;simp only[Ac];exact this
   have z:(Ac F xs d (k+1)).2=(F (nth xs k) (nth d k) (Ac F xs d k).2).2:=by simp only[Ac]
   have J:=qh j;clear j;have G:=qh D;clear D;have K:=qh z;clear z;clear Q U u A
   go_wp2_with fail
   refine J.o.mono ?_;rintro e w'⟨rfl,rfl⟩
   go_wp2_with (at_builtin;refine wpList_append_own _ rfl (.tmp 46) (.tmp 48) 210 rfl w.heap.size 196 i0 (.int .u64 0) 1 8 underlying210 hi a6 a7 a8 rfl (by decide) _ _ _ rfl (World.ownsRow.alloc a1.o _) (Ad wr.heap.size 0) 1 1 [.int .u64 ((F (nth xs k) (nth d k) (Ac F xs d k).2).1:Nat)] rfl rfl (cell_one_new _ _ _) (one_cell _ _) (by unfold maxLen;omega) (by omega) (by simp;omega) ?_;intro E B l h _)
   obtain⟨Z,hb⟩:=G.o s.o E B _ l h;clear l h;have L:=qh Z;clear Z;have I:=qh hb;clear hb;go_wp2;go_roundw
   case rel=>exact⟨k+1,by omega,by go_num,by rw[K.o],L.o,I.o⟩
   simp[intOf];omega
  ·
   obtain rfl:=Q<|Nat.lt_of_le_of_lt nzl S;have c1:=(H.o.cell (p:=(Ad bx (ox+k))) (a9 (Nat.lt_of_le_of_lt nzl S))).trans (u k S);have j:=R.o (nth xs k) 0 (Ac F xs d k).2 wr H.o (sx k) AL a2.o.2;have D:Own wr w.heap.size 196 .u64 (.slice X k C) (Ac F xs d k).1->∀(E:Value) (B:World) (o:Obj),B.ownsRow w.heap.size 196 1 E (k+1) (vals .u64 (Ac F xs d k).1++[.int .u64 ((F (nth xs k) 0 (Ac F xs d k).2).1:Nat)])->(wr.alloc o).grownBy B (Value.slice X k C).ownBlock->Own B w.heap.size 196 .u64 E (Ac F xs d (k+1)).1/\Below w.heap.size w B:=λN E B o O P=>by
    have:=N.appended H.o a5 (by rw[Bt];exact O) P;simp only[Ac];rw[AP d k T];exact this
   have z:(Ac F xs d (k+1)).2=(F (nth xs k) 0 (Ac F xs d k).2).2:=by simp only[Ac];rw[AP d k T]
   have J:=qh j;clear j;have G:=qh D;clear D;have K:=qh z;clear z;clear Q U u A
   go_wp2_with fail
   refine J.o.mono ?_;rintro e w'⟨rfl,rfl⟩
   go_wp2_with (at_builtin;refine wpList_append_own _ rfl (.tmp 46) (.tmp 48) 210 rfl w.heap.size 196 i0 (.int .u64 0) 1 8 underlying210 hi a6 a7 a8 rfl (by decide) _ _ _ rfl (World.ownsRow.alloc a1.o _) (Ad wr.heap.size 0) 1 1 [.int .u64 ((F (nth xs k) 0 (Ac F xs d k).2).1:Nat)] rfl rfl (cell_one_new _ _ _) (one_cell _ _) (by unfold maxLen;omega) (by omega) (by simp;omega) ?_;intro E B l h _)
   obtain⟨Z,hb⟩:=G.o s.o E B _ l h;clear l h;have L:=qh Z;clear Z;have I:=qh hb;clear hb;go_wp2;go_roundw
   case rel=>exact⟨k+1,by omega,by go_num,by rw[K.o],L.o,I.o⟩
   simp[intOf];omega
  have j:=R.o 0 0 (Ac F xs d k).2 wr H.o AL AL a2.o.2;have D:Own wr w.heap.size 196 .u64 (.slice X k C) (Ac F xs d k).1->∀(E:Value) (B:World) (o:Obj),B.ownsRow w.heap.size 196 1 E (k+1) (vals .u64 (Ac F xs d k).1++[.int .u64 ((F 0 0 (Ac F xs d k).2).1:Nat)])->(wr.alloc o).grownBy B (Value.slice X k C).ownBlock->Own B w.heap.size 196 .u64 E (Ac F xs d (k+1)).1/\Below w.heap.size w B:=λN E B o O P=>by
   have:=N.appended H.o a5 (by rw[Bt];exact O) P;simp only[Ac];rw[AP xs k S,AP d k T];exact this
  have z:(Ac F xs d (k+1)).2=(F 0 0 (Ac F xs d k).2).2:=by simp only[Ac];rw[AP xs k S,AP d k T]
  have J:=qh j;clear j;have G:=qh D;clear D;have K:=qh z;clear z;clear Q U u A
  go_wp2_with fail
  refine J.o.mono ?_;rintro e w'⟨rfl,rfl⟩
  go_wp2_with (at_builtin;refine wpList_append_own _ rfl (.tmp 46) (.tmp 48) 210 rfl w.heap.size 196 i0 (.int .u64 0) 1 8 underlying210 hi a6 a7 a8 rfl (by decide) _ _ _ rfl (World.ownsRow.alloc a1.o _) (Ad wr.heap.size 0) 1 1 [.int .u64 ((F 0 0 (Ac F xs d k).2).1:Nat)] rfl rfl (cell_one_new _ _ _) (one_cell _ _) (by unfold maxLen;omega) (by omega) (by simp;omega) ?_;intro E B l h _)
  obtain⟨Z,hb⟩:=G.o s.o E B _ l h;clear l h;have L:=qh Z;clear Z;have I:=qh hb;clear hb;go_wp2;go_roundw
  case rel=>exact⟨k+1,by omega,by go_num,by rw[K.o],L.o,I.o⟩
  simp[intOf];omega
 go_wp2_with fail
 have a4:k=max xs.length d.length+1:=by omega
 have ht:=EF X C (Ac F xs d k).1 wr (by rw[Bt];exact s.o.sl);rw[Bt]at ht;refine ht.mono ?_;rintro e w'⟨m,hm,rfl,rfl⟩;replace hm:=qh hm;replace a4:=qh a4;go_wp2;go_ret;have W:=DV hF sx sy k;refine⟨_,rfl,?_,H.o⟩;rw[<-a4.o,<-Ft W.1 hm.o.1 hm.o.2.1 hm.o.2.2];exact s.o.take hm.o.1
def Jw(g:FuncId)(c:Array Value)(F:Nat->Nat->Nat->Nat × Nat)(M:Nat)(j k:Value)(xs h:List Nat)(w:World)
  (m:∀args w,(callFunc g args).run prog w=.ok (.enter g args) w) (l:StepOk F M) (i:ClosOk g c F M w)
  (o:Sl w .u64 j xs) (p:Sl w .u64 k h) (s:Small xs) (u:Small h) (z:xs.length<=100000) (A:h.length<=100000) :
  Calls prog 241 #[j,k,.func (.func g) #[] c] w (EachEnd (bval (Ac F xs h (max xs.length h.length+1)).1) w):=by
 rcases Nat.lt_or_ge xs.length h.length with d|d
 ·exact SX g c F M j k xs h w m l i d o p s u A
 exact SV g c F M j k xs h w m l i d o p s u z
variable{c:Nat}
def BC(a b c:Nat):Nat × Nat:=((a+b+c) % 1000000000,(a+b+c) / 1000000000)
def BG(a b c:Nat):Nat × Nat:=((a+1000000000-b-c) % 1000000000,1-(a+1000000000-b-c) / 1000000000)
def BL(k:Nat)(a _b c:Nat):Nat × Nat:=((a*k+c) % 1000000000,(a*k+c) / 1000000000)
def NT:StepOk BC 1:=λa b c d hb g=>by
 rw[Ap]at *;simp only[BC];omega
def Kc:StepOk BG 1:=λa b c d hb g=>by
 rw[Ap]at *;simp only[BG];omega
def Ny{a:Nat}(d:a<BB)(h:k<BB)(g:c<BB):a*k+c<1000000000*1000000000:=by
 rw[Ap]at *;have:a*k<=999999999*999999999:=Nat.mul_le_mul (by omega) (by omega);omega
def NU(g:k<BB):StepOk (BL k) 999999999:=λa b c d hb h=>by
 have:=Ny d g (show c<BB by rw[Ap];omega);simp only[BL,Ap];exact⟨Nat.mod_lt _ (by omega),by omega⟩
def RQ(w:World):ClosOk 242 #[] BC 1 w:=λa b c wr _ d hb g=>by
 rw[Ap]at d hb;simp only[BC]
 go_enter func242,ntmps242
 go_wp2;go_ret2;exact⟨rfl,rfl⟩
def RP(w:World):ClosOk 245 #[] BG 1 w:=λa b c wr _ d hb g=>by
 rw[Ap]at d hb;simp only[BG]
 go_enter func245,ntmps245
 go_wp2;go_ret2;exact⟨Wo (by omega) (by omega),rfl⟩
def RR(k bx:Nat)(w:World)(l:k<BB)(g:bx<w.heap.size)(h:w.cell? (Ad bx 0)=some (.int .u64 (k:Int))):
  ClosOk 251 #[.pointer (some (Ad bx 0))] (BL k) 999999999 w:=λa b c wr hb i _ j=>by
 have m:=Ny i l (show c<BB by rw[Ap];omega);have d:=(hb.cell (p:=(Ad bx 0)) g).trans h;have s:0<=(a:Int)*(k:Int):=Int.mul_nonneg (Int.natCast_nonneg _) (Int.natCast_nonneg _);have o:(a:Int)*(k:Int)+(c:Int)<1000000000000000000:=by rw[<-Int.natCast_mul];omega
 clear h m;simp only[BL]
 go_enter func251,ntmps251
 go_wp2;go_ret2;exact⟨rfl,rfl⟩
def Cm{xs:List Nat}(h:xs.length<=k):xs.take k=xs:=List.take_of_length_le h
def SR(xs d:List Nat)(k:Nat):bval (Ac BC xs d k).1+BB ^ k*(Ac BC xs d k).2=bval (xs.take k)+bval (d.take k):=by
 induction k with
 |zero=>simp[Ac,bval]
 |succ k ih =>
  simp only[Ac];rw[EL,Bt,By,By,Nat.pow_succ];generalize (Ac BC xs d k).2=c at *;generalize bval (Ac BC xs d k).1=l at *;generalize nth xs k=a;generalize nth d k=b;have h:(BC a b c).1+BB*(BC a b c).2=a+b+c:=by simp only[BC,Ap];omega
  have g:BB ^ k*(a+b+c)=BB ^ k*(BC a b c).1+BB ^ k*BB*(BC a b c).2:=by rw[<-h,Nat.mul_add,<-Nat.mul_assoc]
  rw[Nat.mul_add,Nat.mul_add]at g;omega
theorem SU(F:Nat->Nat->Nat->Nat × Nat)(xs c:List Nat)(k:Nat):(Ac F xs c (k+1)).2=(F (nth xs k) (nth c k) (Ac F xs c k).2).2:=rfl
def Tn(h:c<=1):(BC 0 0 c).2=0:=by simp only[BC];omega
def VI(xs c:List Nat)(j:Small xs)(k:Small c)(n:Nat)(d:xs.length<=n)(g:c.length<=n):bval (Ac BC xs c (n+1)).1=bval xs+bval c:=by
 have h:=SR xs c (n+1);rw[Cm (Nat.le_succ_of_le d),Cm (Nat.le_succ_of_le g)]at h;have i:(Ac BC xs c (n+1)).2=0:=by
  rw[SU,AP xs _ d,AP c _ g];exact Tn (DV NT j k n).2
 rw[i,Nat.mul_zero,Nat.add_zero]at h;exact h
def VH(xs c:List Nat)(d:Small xs)(g:Small c):bval (Ac BC xs c (max xs.length c.length+1)).1=bval xs+bval c :=
 VI xs c d g _ (Nat.le_max_left _ _) (Nat.le_max_right _ _)
def SQ(xs d:List Nat)(g:Small xs)(i:Small d)(k:Nat):bval (Ac BG xs d k).1+bval (d.take k)=bval (xs.take k)+BB ^ k*(Ac BG xs d k).2:=by
 induction k with
 |zero=>simp[Ac,bval]
 |succ k ih =>
  have o:=(DV Kc g i k).2;have m:=g k;have hb:=i k;simp only[Ac];rw[EL,Bt,By,By,Nat.pow_succ];generalize (Ac BG xs d k).2=c at *;generalize bval (Ac BG xs d k).1=l at *;generalize nth xs k=a at *;generalize nth d k=b at *;have h:(BG a b c).1+b+c=a+BB*(BG a b c).2:=by rw[Ap]at *;simp only[BG];omega
  have j:BB ^ k*((BG a b c).1+b+c)=BB ^ k*a+BB ^ k*BB*(BG a b c).2:=by rw[h,Nat.mul_add,<-Nat.mul_assoc]
  rw[Nat.mul_add,Nat.mul_add]at j;omega
def Ux(xs d:List Nat)(k:Small xs)(m:Small d)(s:bval d<=bval xs)(n:Nat)(o:xs.length<=n)(p:d.length<=n):bval (Ac BG xs d n).1=bval xs-bval d:=by
 have h:=SQ xs d k m n;rw[Cm o,Cm p]at h;have g:=DV Kc k m n;have i:=Ca g.1;rw[Bt]at i;generalize bval (Ac BG xs d n).1=l at *;generalize (Ac BG xs d n).2=c at *
 rcases Nat.eq_zero_or_pos c with j|j
 ·subst j;rw[Nat.mul_zero,Nat.add_zero]at h;omega
 have:c=1:=by have:=g.2;omega
 subst this;rw[Nat.mul_one]at h;omega
def Uw(xs c:List Nat)(g:Small xs)(h:Small c)(d:bval c<=bval xs):bval (Ac BG xs c (max xs.length c.length+1)).1=bval xs-bval c :=
 Ux xs c g h d _ (Nat.le_succ_of_le (Nat.le_max_left _ _)) (Nat.le_succ_of_le (Nat.le_max_right _ _))
def SS(m:Nat)(xs:List Nat)(k:Nat):bval (Ac (BL m) xs [] k).1+BB ^ k*(Ac (BL m) xs [] k).2=bval (xs.take k)*m:=by
 induction k with
 |zero=>simp[Ac,bval]
 |succ k ih =>
  simp only[Ac];rw[EL,Bt,By,Nat.pow_succ,Nat.add_mul,Nat.mul_assoc (BB ^ k) (nth xs k) m];generalize (Ac (BL m) xs [] k).2=c at *;generalize bval (Ac (BL m) xs [] k).1=l at *;generalize nth xs k=a;have h:(BL m a (nth [] k) c).1+BB*(BL m a (nth [] k) c).2=a*m+c:=by simp only[BL,Ap];omega
  have d:BB ^ k*(a*m+c)=BB ^ k*(BL m a (nth [] k) c).1+BB ^ k*BB*(BL m a (nth [] k) c).2:=by rw[<-h,Nat.mul_add,<-Nat.mul_assoc]
  rw[Nat.mul_add]at d;omega
def WT{m:Nat}(d:m<BB)(xs:List Nat)(g:Small xs):bval (Ac (BL m) xs [] (max xs.length ([]:List Nat).length+1)).1=bval xs*m:=by
 have h:=SS m xs (max xs.length ([]:List Nat).length+1);rw[Cm (by omega)]at h;have c:(Ac (BL m) xs [] (max xs.length ([]:List Nat).length+1)).2=0:=by
  have:=(DV (NU d) g Gs (max xs.length ([]:List Nat).length)).2;simp only[Ac,BL];rw[AP xs _ (by omega),Nat.zero_mul,Nat.zero_add];exact Nat.div_eq_of_lt (by omega)
 rw[c]at h;simpa using h
def enter46:∀args w,(callFunc 242 args).run prog w=.ok (.enter 242 args) w:=λargs w=>by kernel_rfl
def enter52:∀args w,(callFunc 245 args).run prog w=.ok (.enter 245 args) w:=λargs w=>by kernel_rfl
def enter63:∀args w,(callFunc 251 args).run prog w=.ok (.enter 251 args) w:=λargs w=>by kernel_rfl
def VF(g h:Value)(m n:Nat)(w:World)(i:Sl w .u64 g (toB m))(j:Sl w .u64 h (toB n))(k:(toB m).length<=100000)(l:(toB n).length<=100000):
  Calls prog 224 #[g,h] w (EachEnd (m+n) w):=by
 have c:=Jw 242 #[] BC 1 g h (toB m) (toB n) w enter46 NT (RQ w) i j (AW m) (AW n) k l;rw[VH _ _ (AW m) (AW n),AX,AX]at c;replace c:=qh c;clear i j
 go_enter func224,ntmps224
 go_wp2_with fail
 refine c.o.mono ?_;rintro e o⟨v,rfl,d⟩;replace d:=qh d;go_wp2;go_ret;exact⟨v,rfl,d.o⟩
def Uv(h i:Value)(m n:Nat)(w:World)(j:Sl w .u64 h (toB m))(k:Sl w .u64 i (toB n))(l:(toB m).length<=100000)(o:(toB n).length<=100000)(d:n<=m):
  Calls prog 226 #[h,i] w (EachEnd (m-n) w):=by
 have c:=Jw 245 #[] BG 1 h i (toB m) (toB n) w enter52 Kc (RP w) j k (AW m) (AW n) l o;rw[Uw _ _ (AW m) (AW n) (by rw[AX,AX];exact d),AX,AX]at c;replace c:=qh c;clear j k
 go_enter func226,ntmps226
 go_wp2_with fail
 refine c.o.mono ?_;rintro e p⟨v,rfl,g⟩;replace g:=qh g;go_wp2;go_ret;exact⟨v,rfl,g.o⟩
def OZ(i:Value)(m k:Nat)(w:World)(h:k<BB)(j:Sl w .u64 i (toB m))(l:(toB m).length<=100000):
  Calls prog 235 #[i,.int .u64 (k:Int)] w (EachEnd (m*k) w):=by
 have c:Below w.heap.size w (w.alloc (.cells #[.int .u64 (k:Int)] 196)):=blr.alloc nlr _;have d:=Jw 251 #[.pointer (some (Ad w.heap.size 0))] (BL k) 999999999 i (.slice none 0 0) (toB m) [] (w.alloc (.cells #[.int .u64 (k:Int)] 196)) enter63 (NU h)
  (RR k w.heap.size _ h (by simp) (by simp)) (j.below c nlr) (Sl.nil _ _) (AW m) Gs l (by simp)
 rw[WT h _ (AW m),AX]at d;replace d:=qh d;clear j;replace c:=qh c
 go_enter func235,ntmps235
 go_wp2_with fail
 refine d.o.mono ?_;rintro e o⟨v,rfl,g⟩;replace g:=qh g;go_wp2;go_ret;exact⟨v,rfl,g.o.1.mono (by simp),c.o.trans (g.o.2.mono (by simp))⟩
end
end Go.Proofs.YtpldocnhbdlgfaaGreatDoor
