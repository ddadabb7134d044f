/- Parts. -/
import Derived.Test.YteappjogmnogcaaGreatDoorZ00
namespace Go.Proofs.YteappjogmnogcaaGreatDoor
set_option maxRecDepth 100000
set_option linter.all false
set_option maxHeartbeats 16000000
open Go Tryz
section
open Go.RowKit
def Trimmed(xs:List Nat)(k:Nat):Prop:=k<=xs.length/\(∀j,k<=j->nth xs j=0)/\(k=0\/nth xs (k-1)≠0)
def TrimEnd(a:Option Addr)(cap:Nat)(xs:List Nat)(w:World)(e:Ending)(w':World):Prop:=∃k,Trimmed xs k/\e=.returned (.slice a k cap)/\w=w'
def EN(a:Option Addr)(cap:Nat)(xs:List Nat)(w:World)(h:Sl w .u64 (.slice a xs.length cap) xs):
  Calls prog 207 #[.slice a xs.length cap] w (TrimEnd a cap xs w):=by
 rcases h with⟨g,rfl⟩|⟨b,l,c,g,C,D,u,z⟩
 ·simp only[Value.slice.injEq]at g;obtain⟨rfl,_,rfl⟩:=g
  go_enter func207,ntmps207
  go_wp2
  go_loop [0] (λv=>v=.slice none 0 0) (λv=>lenV v)
  case atStart=>exact rfl
  obtain rfl:=hrel;go_wp2;go_ret;exact⟨0,⟨Nat.zero_le _,λj _=>AT [] j nzl,.inl rfl⟩,rfl,rfl⟩
 simp only[Value.slice.injEq,true_and]at g;obtain⟨rfl,rfl⟩:=g;unfold maxLen at u
 go_enter func207,ntmps207
 go_wp2
 go_loop [0] (λv=>∃k:Nat,k<=xs.length/\v=.slice (some (Ad b l)) k cap/\∀j,k<=j->nth xs j=0) (λv=>lenV v)
 case atStart=>exact⟨xs.length,nlr,rfl,λj o=>AT xs j o⟩
 obtain⟨k,p,rfl,i⟩:=hrel;replace i:=qh i;by_cases s:k=0
 ·subst s;go_wp2;go_ret;exact⟨0,⟨p,i.o,.inl rfl⟩,rfl,rfl⟩
 obtain⟨m,rfl⟩:∃m,k=m+1:=⟨k-1,by omega⟩;have A:=z m (by omega);by_cases d:nth xs m=0
 ·replace d:=qh d;rw[d.o]at A;go_wp2
  go_round
  case rel=>exact⟨m,by omega,rfl,λj o=>by
   by_cases e:j=m
   ·rw[e];exact d.o
   exact i.o j (by omega)⟩
  simp[lenV]
 replace d:=qh d;have B:(((nth xs m:Nat):Int)==0)=false:=by rw[beq_eq_false_iff_ne];have:=d.o;omega
 go_wp2;go_ret;exact⟨m+1,⟨p,i.o,.inr d.o⟩,rfl,rfl⟩
variable{xs:List Nat}{k n x:Nat}
def LJ:∃b:Nat,b=1000000000:=⟨_,rfl⟩
noncomputable def BB:Nat:=Classical.choose LJ
theorem An:BB=1000000000:=Classical.choose_spec LJ
def AO:0<BB:=by rw[An];omega
def EQ:1<BB:=by rw[An];omega
noncomputable def bval:List Nat->Nat | []=>0|x::xs=>x+BB*bval xs
def Small(xs:List Nat):Prop:=∀i,nth xs i<BB
def Gz:Small []:=λi=>by rw[AT _ _ nzl];exact AO
theorem Ki(x:Nat)(xs:List Nat):nth (x::xs) 0=x:=rfl
theorem HD(x:Nat)(xs:List Nat)(i:Nat):nth (x::xs) (i+1)=nth xs i:=rfl
def Gd(xs c:List Nat)(i:Nat)(h:i<xs.length):nth (xs++c) i=nth xs i:=by simp[nth,List.getD_eq_getElem?_getD,List.getElem?_append_left h]
theorem Ge(xs c:List Nat)(i:Nat)(h:xs.length<=i):nth (xs++c) i=nth c (i-xs.length):=by simp[nth,List.getD_eq_getElem?_getD,List.getElem?_append_right h]
theorem Lf:Small (x::xs)↔x<BB/\Small xs :=
 ⟨λh=>⟨h 0,λi=>h (i+1)⟩,λ⟨c,d⟩ i=>by cases i with
  |zero=>exact c
  |succ i=>exact d i⟩
def Iy(h:Small xs)(d:x<BB):Small (xs++[x]):=λi=>by
 by_cases c:i<xs.length
 ·rw[Gd _ _ _ c];exact h i
 rw[Ge _ _ _ (by omega)];cases i-xs.length with
 |zero=>exact d
 |succ j=>exact AO
def EI(h:Small xs)(k:Nat):Small (xs.take k):=λi=>by
 by_cases c:i<k
 ·rw[Fo _ _ _ c];exact h i
 rw[AT _ _ (by rw[List.length_take];omega)];exact AO
theorem EU(xs c:List Nat):bval (xs++c)=bval xs+BB ^ xs.length*bval c:=by
 induction xs with
 |nil=>simp[bval]
 |cons x xs ih=>simp only[List.cons_append,bval,ih,List.length_cons,Nat.pow_succ];rw[Nat.mul_add,Nat.mul_comm (BB ^ xs.length) BB,Nat.mul_assoc];omega
theorem EV(xs:List Nat)(x:Nat):bval (xs++[x])=bval xs+BB ^ xs.length*x:=by rw[EU];simp[bval]
theorem BC(xs:List Nat)(k:Nat):bval (xs.take (k+1))=bval (xs.take k)+BB ^ k*nth xs k:=by
 by_cases h:k<xs.length
 ·rw[IF xs k h,EV,List.length_take,Nat.min_eq_left (by omega)]
 rw[List.take_of_length_le (by omega),List.take_of_length_le (by omega),AT xs k (by omega)];simp
def Ce(h:Small xs):bval xs<BB ^ xs.length:=by
 induction xs with
 |nil=>simp[bval]
 |cons x xs ih =>
  obtain⟨g,c⟩:=Lf.1 h;have:=ih c;simp only[bval,List.length_cons,Nat.pow_succ];have d:BB*(bval xs+1)<=BB*BB ^ xs.length:=Nat.mul_le_mul_left _ this;rw[Nat.mul_comm (BB ^ xs.length)];rw[Nat.mul_add]at d;omega
def Mw(h:∀i,nth xs i=0):bval xs=0:=by
 induction xs with
 |nil=>rfl
 |cons x xs ih=>simp only[bval];rw[ih (λi=>h (i+1)),show x=0 from h 0];simp
noncomputable def toBf:Nat->Nat->List Nat
 |0,_=>[]
 |f+1,n=>if n=0 then [] else n % BB::toBf f (n / BB)
noncomputable def toB(n:Nat):List Nat:=toBf n n
def ZR:∀(f g n:Nat),n<=f->n<=g->toBf f n=toBf g n:=by
 intro f
 induction f with
 |zero =>
      intro g n h _;have:n=0:=by omega
      subst this;cases g<;>simp[toBf]
 |succ f ih =>
  intro g n d i;by_cases c:n=0
  ·subst c;cases g<;>simp[toBf]
  cases g with
  |zero=>omega
  |succ g =>
   simp only[toBf,ifn c];have:n / BB<n:=Nat.div_lt_self (by omega) EQ;rw[ih g (n / BB) (by omega) (by omega)]
theorem II:toB 0=[]:=rfl
def EL(h:n≠0):toB n=n % BB::toB (n / BB):=by
 unfold toB;cases n with
 |zero=>exact absurd rfl h
 |succ n =>
  have:(n+1) / BB<n+1:=Nat.div_lt_self (by omega) EQ;simp only[toBf,ifn h];rw[ZR n ((n+1) / BB) ((n+1) / BB) (by omega) (by omega)]
theorem Bb(n:Nat):bval (toB n)=n:=by
 induction n using Nat.strongRecOn with
 |ind n ih =>
  by_cases h:n=0
  ·subst h;rfl
  rw[EL h];simp only[bval];rw[ih (n / BB) (Nat.div_lt_self (by omega) EQ)];exact Nat.mod_add_div n BB
def Ba(n:Nat):Small (toB n):=by
 induction n using Nat.strongRecOn with
 |ind n ih =>
  by_cases h:n=0
  ·subst h;exact Gz
  rw[EL h];exact Lf.2 ⟨Nat.mod_lt _ AO,ih (n / BB) (Nat.div_lt_self (by omega) EQ)⟩
def ZP:∀{xs:List Nat},Small xs->(xs=[]\/nth xs (xs.length-1)≠0)->toB (bval xs)=xs:=by
 intro xs
 induction xs with
 |nil=>intro _ _;rfl
 |cons x xs ih =>
  intro m o;obtain⟨i,p⟩:=Lf.1 m;have g:nth (x::xs) xs.length≠0:=by
   rcases o with h|h
   ·simp at h
   simpa using h
  have hi:xs=[]\/nth xs (xs.length-1)≠0:=by
   cases xs with
   |nil=>exact .inl rfl
   |cons y ys=>exact .inr (by simpa [HD] using g)
  have c:=ih p hi;have d:bval (x::xs)≠0:=by
   cases xs with
   |nil =>
        simp only[bval];have:x≠0:=g;omega
   |cons y ys =>
    intro e;simp only[bval]at e;have l:bval (y::ys)=0:=by
     simp only[bval];have:=AO
     rcases Nat.eq_zero_or_pos (y+BB*bval ys) with h|h
     ·exact h
     have:0<BB*(y+BB*bval ys):=Nat.mul_pos AO h;omega
    rw[l]at c;simp[II]at c
  rw[EL d];have j:bval (x::xs) % BB=x:=by simp only[bval];rw[Nat.add_mul_mod_self_left,Nat.mod_eq_of_lt i]
  have k:bval (x::xs) / BB=bval xs:=by simp only[bval];rw[Nat.add_mul_div_left _ _ AO,Nat.div_eq_of_lt i,Nat.zero_add]
  rw[j,k,c]
theorem IH(h:n≠0):nth (toB n) ((toB n).length-1)≠0:=by
 induction n using Nat.strongRecOn with
 |ind n ih =>
  rw[EL h];by_cases c:n / BB=0
  ·rw[c,II];show n % BB≠0;have:=Nat.mod_add_div n BB;rw[c]at this;omega
  have:=ih (n / BB) (Nat.div_lt_self (by omega) EQ) c;have d:1<=(toB (n / BB)).length:=by rw[EL c];simp
  rw[List.length_cons,show (toB (n / BB)).length+1-1=((toB (n / BB)).length-1)+1 by omega,HD];exact this
def El(h:n≠0):1<=(toB n).length:=by rw[EL h];simp
def GH(h:n<BB ^ k):(toB n).length<=k:=by
 induction k generalizing n with
 |zero =>
      have:n=0:=by simp at h;exact h
      subst this;simp[II]
 |succ k ih =>
  by_cases c:n=0
  ·subst c;simp[II]
  rw[EL c];have:n / BB<BB ^ k:=Nat.div_lt_of_lt_mul (by rw[Nat.pow_succ,Nat.mul_comm]at h;exact h);have:=ih this;simp;omega
def ZQ(h:n≠0):BB ^ ((toB n).length-1)<=n:=by
 have c:=Bb n;have g:=IH h;have i:=El h;have d:=BC (toB n) ((toB n).length-1);rw[show (toB n).length-1+1=(toB n).length by omega,List.take_length,c]at d;have:BB ^ ((toB n).length-1)*1<=BB ^ ((toB n).length-1)*nth (toB n) ((toB n).length-1):=Nat.mul_le_mul_left _ (by omega);omega
def Ek{m:Nat}(h:m<=n):(toB m).length<=(toB n).length :=
 GH (Nat.lt_of_le_of_lt h (by have:=Ce<|Ba n;rw[Bb]at this;exact this))
def QT(c:∀j,k<=j->nth xs j=0):bval (xs.take k)=bval xs:=by
 have h:=EU (xs.take k) (xs.drop k);rw[List.take_append_drop]at h;rw[h,Mw (xs:=xs.drop k) (λi=>by
  have:nth (xs.drop k) i=nth xs (k+i):=by simp[nth,List.getD_eq_getElem?_getD]
  rw[this];exact c _ (by omega))]
 simp
def FC(h:Small xs)(g:k<=xs.length)(i:∀j,k<=j->nth xs j=0)(c:k=0\/nth xs (k-1)≠0):xs.take k=toB (bval xs):=by
 rw[<-QT i]
 symm
 apply ZP (EI h k)
 rcases c with rfl|c
 ·left;simp
 by_cases d:k=0
 ·subst d;left;simp
 right;rw[List.length_take,Nat.min_eq_left g,Fo _ _ _ (by omega)];exact c
variable{s t:ByteArray}{l:List Nat}
def seg(t:ByteArray)(c i:Nat):Nat:=num<|((bts t).take i).drop c
theorem YG(t:ByteArray)(c:Nat):seg t c c=0:=by unfold seg;rw[List.drop_of_length_le (by rw[List.length_take];omega)];rfl
def YH(t:ByteArray)(c i:Nat)(d:c<=i)(h:i<t.size):seg t c (i+1)=10*seg t c i+(t[i].toNat-48):=by
 unfold seg;rw[FA t i h,List.drop_append_of_le_length (by rw[List.length_take,Ap];omega),Dt]
theorem MY{l:List UInt8}(h:dgts l=true)(a b:Nat):dgts ((l.take a).drop b)=true:=by
 unfold dgts at *;rw[List.all_eq_true]at *;exact λx c=>h x (List.mem_of_mem_take (List.mem_of_mem_drop c))
def seg_lt(t:ByteArray)(c i:Nat)(h:dgts (bts t)=true)(hi:i<=c+9):seg t c i<1000000000:=by
 have d:=Kj _ (MY h i c);have:(((bts t).take i).drop c).length<=9:=by rw[List.length_drop,List.length_take];omega
 have g:10 ^ (((bts t).take i).drop c).length<=10 ^ 9:=Nat.pow_le_pow_right (by omega) this;unfold seg;omega
def WH(l r:List UInt8):num (l++r)=num l*10 ^ r.length+num r:=by
 suffices h:∀(k:Nat) (r:List UInt8),r.length=k->num (l++r)=num l*10 ^ r.length+num r from h _ r rfl
 intro k
 induction k with
 |zero =>
      intro r h;have:r=[]:=List.length_eq_zero_iff.1 h;subst this;simp[num]
 |succ k ih =>
  intro r h;obtain⟨m,c,rfl⟩:=Ht r (by intro e;subst e;simp at h);simp at h;rw[<-List.append_assoc,Dt,Dt,ih m h,List.length_append,List.length_singleton,Nat.pow_succ,Nat.mul_add,<-Nat.mul_assoc,<-Nat.mul_assoc,Nat.mul_comm (num l*10 ^ m.length) 10,<-Nat.mul_assoc];omega
def WI(t:ByteArray)(c:Nat):num (bts t)=num ((bts t).take c)*10 ^ ((bts t).length-c)+seg t c t.size:=by
 have h:=WH ((bts t).take c) ((bts t).drop c);rw[List.take_append_drop,List.length_drop]at h;have e:seg t c t.size=num ((bts t).drop c):=by unfold seg;rw[List.take_of_length_le (by rw[Ap];omega)]
 rw[e];exact h
theorem pow9(k:Nat):10 ^ (9*k)=BB ^ k:=by rw[Nat.pow_mul,An]
structure BlkInv(s t:ByteArray)(l:List Nat):Prop where
 small:Small l
 dig:dgts (bts t)=true
 val:num (bts s)=num (bts t)*BB ^ l.length+bval l
 len:t.size<=1000/\(t.size=0\/t.size+9*l.length=s.size)
def BlkInv.step(h:BlkInv s t l)(c:Nat)(j:c=t.size-9)(g:0<t.size):BlkInv s (t.extract 0 c) (l++[seg t c t.size]):=by
 have hb:bts (t.extract 0 c)=(bts t).take c:=by
  have:=Lib.extract_data t 0 c;unfold bts;rw[this];simp
 have d:(t.extract 0 c).size=c:=by rw[<-Ap,hb,List.length_take,Ap];omega
 refine⟨Iy h.small (by rw[An];exact seg_lt t c t.size h.dig (by omega)),?_,?_,?_⟩
 ·rw[hb];have:=MY h.dig c 0;simpa using this
 ·rw[h.val,EV,hb,WI t c,List.length_append,List.length_singleton];by_cases i:9<=t.size
  ·rw[show (bts t).length-c=9*1 by rw[Ap];omega,pow9,Nat.pow_succ BB l.length,Nat.pow_one,Nat.add_mul,Nat.mul_assoc,Nat.mul_comm BB (BB ^ l.length),Nat.mul_comm (seg t c t.size)];omega
  have:c=0:=by omega
  subst this;simp only[List.take_zero,show num []=0 from rfl,Nat.zero_mul,Nat.zero_add];rw[Nat.mul_comm];omega
 rw[d,List.length_append,List.length_singleton];have:=h.len;omega
def BlkInv.done(h:BlkInv s t l)(c:t.size=0):bval l=num (bts s):=by
 have:bts t=[]:=List.length_eq_zero_iff.1 (by rw[Ap];exact c);rw[h.val,this];simp[num]
theorem FY:(prog.info? 179).map (λi=>(i.zero,i.size,i.bytes))=some (some (.int .u64 0),1,8):=by kernel_rfl
def BlocksEnd(n:Nat)(w:World)(e:Ending)(w':World):Prop:=∃v,e=.returned v/\Own w' w.heap.size 179 .u64 v (toB n)/\Below w.heap.size w w'
def SJ(s:ByteArray)(w:World)(R:s.size<=1000)(A:dgts (bts s)=true):
  Calls prog 205 #[.string s] w (BlocksEnd (num (bts s)) w):=by
 obtain⟨i0,hi,K,L,N⟩:=info_parts FY;have C:BlkInv s s []:=⟨Gz,A,by simp[bval],R,.inr (by simp)⟩;clear A R;have O:=qh C;clear C
 go_enter func205,ntmps205
 go_wp2
 go_loopw [0,3] (λa v wr=>∃t l,a=.string t/\BlkInv s t l/\Own wr w.heap.size 179 .u64 v l/\Below w.heap.size w wr)
  (λa _ _=>strV a)
 case atStart=>exact⟨s,[],rfl,O.o,Own.nil _ _ _ _,blr⟩
 obtain⟨t,l,rfl,d,g,hb⟩:=hrel;obtain⟨S,G,rfl⟩:=g.shape;have o:=qh d.dig;have Q:=d.len.1;replace d:=qh d;replace g:=qh g;have E:=qh hb;clear hb;by_cases C:t.size=0
 ·go_wp2_with fail
  refine(EN S G l wr g.o.sl).mono ?_;rintro e w'⟨k,z,rfl,rfl⟩;replace z:=qh z;go_wp2;go_ret;refine⟨_,rfl,?_,E.o⟩;rw[<-d.o.done C,<-FC d.o.small z.o.1 z.o.2.1 z.o.2.2];exact g.o.take z.o.1
 have P:0<t.size:=by omega
 obtain⟨c,m⟩:=exq<|t.size-9;replace m:=qh m
 rcases Nat.lt_or_ge t.size 10 with U|U
 all_goals
  go_wp2
  go_loop [5,6] (λn i=>∃k:Nat,c<=k/\k<=t.size/\i=.int .i64 k/\n=.int .u64 (seg t c k:Nat)) (λ_ i=>t.size-(intOf i).toNat)
  case atStart=>exact⟨c,nlr,by have:=m.o;omega,by have:=m.o;go_num,by rw[YG];rfl⟩
  obtain⟨k,I,Y,rfl,rfl⟩:=hrel;by_cases u:k<t.size
  ·have hn:=seg_lt t c k o.o (by have:=m.o;omega);have A:=Jt o.o k (by rw[Ap];exact u);rw[Jk t k u]at A;have W:(48:Int)<=(t[k].toNat:Int):=by omega
   have X:(t[k].toNat:Int)<=57:=by omega
   clear A;go_wp2
   go_round
   case rel=>exact⟨k+1,by omega,by omega,by go_num,by rw[YH t c k I u];go_num⟩
   simp[intOf];omega
  have Z:l.length<=1000:=by have:=d.o.len.2;have:=d.o.step c m.o P;have:=O.o.len.1;omega
  have J:=E.o.size
  go_wp2_with (at_builtin;refine wpList_append_own _ rfl (.tmp 29) (.tmp 31) 199 rfl w.heap.size 179 i0 (.int .u64 0) 1 8 underlying199 hi K L N rfl (by decide) _ _ _ rfl (World.ownsRow.alloc g.o.raw _) (Ad wr.heap.size 0) 1 1 [.int .u64 (seg t c k:Nat)] rfl rfl (cell_one_new _ _ _) (one_cell _ _) (by unfold maxLen;omega) (by omega) (by simp;omega) ?_;intro v' w1 j h _)
  obtain⟨D,hb⟩:=g.o.appended E.o J j h;clear j h;replace D:=qh D;have F:=qh hb;clear hb;have p:k=t.size:=by omega
  replace p:=qh p;go_wp2;go_roundw
  case rel =>
   have B:=d.o.step c m.o P;rw[p.o]at D;refine⟨_,_,rfl,?_,D.o,F.o⟩;have H:=m.o
   first
    |(rw[<-H];exact B)
    |(
      have e:c=0:=by omega
      have T:t.extract 0 c=ByteArray.empty:=by rw[e];simp
      rw[<-T];exact B)
  simp only[Zi,ByteArray.size_extract,ByteArray.size_empty];omega
def Ae(F:Nat->Nat->Nat->Nat × Nat)(xs ys:List Nat):Nat->List Nat × Nat
 |0=>([],0)
 |k+1=>((Ae F xs ys k).1++[(F (nth xs k) (nth ys k) (Ae F xs ys k).2).1],(F (nth xs k) (nth ys k) (Ae F xs ys k).2).2)
theorem Bt(F:Nat->Nat->Nat->Nat × Nat)(xs c:List Nat)(k:Nat):(Ae F xs c k).1.length=k:=by
 induction k with
 |zero=>rfl
 |succ k ih=>simp[Ae,ih]
def StepOk(F:Nat->Nat->Nat->Nat × Nat)(M:Nat):Prop:=∀a b c,a<BB->b<BB->c<=M->(F a b c).1<BB/\(F a b c).2<=M
def Eb{F:Nat->Nat->Nat->Nat × Nat}{M:Nat}(d:StepOk F M){xs c:List Nat}(g:Small xs)(h:Small c)(k:Nat):Small (Ae F xs c k).1/\(Ae F xs c k).2<=M:=by
 induction k with
 |zero=>exact⟨Gz,Nat.zero_le _⟩
 |succ k ih=>exact⟨Iy ih.1 (d _ _ _ (g k) (h k) ih.2).1,(d _ _ _ (g k) (h k) ih.2).2⟩
def ClosOk(g:FuncId)(caps:Array Value)(F:Nat->Nat->Nat->Nat × Nat)(M:Nat)(w:World):Prop :=
 ∀(a b c:Nat) (wr:World),Below w.heap.size w wr->a<BB->b<BB->c<=M ->
  Calls prog g (#[.int .u64 (a:Int),.int .u64 (b:Int),.int .u64 (c:Int)]++caps) wr λe w'=>e=.returned (.tuple #[.int .u64 ((F a b c).1:Nat),.int .u64 ((F a b c).2:Nat)])/\wr=w'
def EachEnd(n:Nat)(w:World)(e:Ending)(w':World):Prop:=∃v,e=.returned v/\Own w' w.heap.size 179 .u64 v (toB n)/\Below w.heap.size w w'
def Uo(g:FuncId)(Y:Array Value)(F:Nat->Nat->Nat->Nat × Nat)(M:Nat)(vx vy:Value)(xs d:List Nat)(w:World)
  (he:∀args w,(callFunc g args).run prog w=.ok (.enter g args) w) (hF:StepOk F M) (R:ClosOk g Y F M w)
  (b5:xs.length<d.length) (hx:Sl w .u64 vx xs) (hy:Sl w .u64 vy d) (sx:Small xs) (sy:Small d) (ly:d.length<=100000) :
  Calls prog 228 #[vx,vy,.func (.func g) #[] Y] w (EachEnd (bval (Ae F xs d (max xs.length d.length+1)).1) w):=by
 obtain⟨i0,hi,a5,a6,a7⟩:=info_parts FY;obtain⟨ax,cx,bx,ox,rfl,U,b3,b0,b2,A⟩:=hx.open;obtain⟨ay,cy,a8,oy,rfl,Q,b4,b1,a9,u⟩:=hy.open;unfold maxLen at b0 b1;replace R:=qh R;clear hx hy
 go_enter func228,ntmps228
 go_wp2
 go_loopw [7,8,19] (λv c i wr=>∃k:Nat,k<=max xs.length d.length+1/\i=.int .i64 k/\c=.int .u64 ((Ae F xs d k).2:Nat)/\Own wr w.heap.size 179 .u64 v (Ae F xs d k).1/\Below w.heap.size w wr)
  (λ_ _ i _=>max xs.length d.length+1-(intOf i).toNat)
 case atStart=>exact⟨0,Nat.zero_le _,rfl,rfl,Own.nil _ _ _ _,blr⟩
 obtain⟨k,hk,rfl,rfl,s,hb⟩:=hrel;obtain⟨X,C,rfl⟩:=s.shape;rw[Bt]at s;rw[Bt];replace s:=qh s;have H:=qh hb;clear hb;have a4:=H.o.size;by_cases b6:k<max xs.length d.length+1
 ·have W:=Eb hF sx sy k;have a2:=qh W;clear W;have a1:Hd (wr.ownsRow w.heap.size 179 1 (.slice X k C) k (vals .u64 (Ae F xs d k).1)):=qh (by have:=s.o.raw;rw[Bt]at this;exact this)
  rcases Nat.lt_or_ge k d.length with T|T
  rcases Nat.lt_or_ge k xs.length with S|S
  rotate_left 2
  obtain S:xs.length<=k:=by omega
  rotate_left 1
  ·
   obtain rfl:=U<|Nat.lt_of_le_of_lt nzl S;have c1:=(H.o.cell (p:=(Ad bx (ox+k))) (b2 (Nat.lt_of_le_of_lt nzl S))).trans (A k S);obtain rfl:=Q<|Nat.lt_of_le_of_lt nzl T;have c2:=(H.o.cell (p:=(Ad a8 (oy+k))) (a9 (Nat.lt_of_le_of_lt nzl T))).trans (u k T);have j:=R.o (nth xs k) (nth d k) (Ae F xs d k).2 wr H.o (sx k) (sy k) a2.o.2;have D:Own wr w.heap.size 179 .u64 (.slice X k C) (Ae F xs d k).1->∀(E:Value) (B:World) (o:Obj),B.ownsRow w.heap.size 179 1 E (k+1) (vals .u64 (Ae F xs d k).1++[.int .u64 ((F (nth xs k) (nth d k) (Ae F xs d k).2).1:Nat)])->(wr.alloc o).grownBy B (Value.slice X k C).ownBlock->Own B w.heap.size 179 .u64 E (Ae F xs d (k+1)).1/\Below w.heap.size w B:=λN E B o O P=>by
    have:=N.appended H.o a4 (by rw[Bt];exact O) P;simp only[Ae];exact this
   have z:(Ae F xs d (k+1)).2=(F (nth xs k) (nth d k) (Ae F xs d k).2).2:=by simp only[Ae]
   have J:=qh j;clear j;have G:=qh D;clear D;have K:=qh z;clear z;clear U Q A u
   go_wp2_with fail
   refine J.o.mono ?_;rintro e w'⟨rfl,rfl⟩
   go_wp2_with (at_builtin;refine wpList_append_own _ rfl (.tmp 46) (.tmp 48) 199 rfl w.heap.size 179 i0 (.int .u64 0) 1 8 underlying199 hi a5 a6 a7 rfl (by decide) _ _ _ rfl (World.ownsRow.alloc a1.o _) (Ad wr.heap.size 0) 1 1 [.int .u64 ((F (nth xs k) (nth d k) (Ae F xs d k).2).1:Nat)] rfl rfl (cell_one_new _ _ _) (one_cell _ _) (by unfold maxLen;omega) (by omega) (by simp;omega) ?_;intro E B l h _)
   obtain⟨Z,hb⟩:=G.o s.o E B _ l h;clear l h;have L:=qh Z;clear Z;have I:=qh hb;clear hb;go_wp2;go_roundw
   case rel=>exact⟨k+1,by omega,by go_num,by rw[K.o],L.o,I.o⟩
   simp[intOf];omega
  ·
   obtain rfl:=Q<|Nat.lt_of_le_of_lt nzl T;have c2:=(H.o.cell (p:=(Ad a8 (oy+k))) (a9 (Nat.lt_of_le_of_lt nzl T))).trans (u k T);have j:=R.o 0 (nth d k) (Ae F xs d k).2 wr H.o AO (sy k) a2.o.2;have D:Own wr w.heap.size 179 .u64 (.slice X k C) (Ae F xs d k).1->∀(E:Value) (B:World) (o:Obj),B.ownsRow w.heap.size 179 1 E (k+1) (vals .u64 (Ae F xs d k).1++[.int .u64 ((F 0 (nth d k) (Ae F xs d k).2).1:Nat)])->(wr.alloc o).grownBy B (Value.slice X k C).ownBlock->Own B w.heap.size 179 .u64 E (Ae F xs d (k+1)).1/\Below w.heap.size w B:=λN E B o O P=>by
    have:=N.appended H.o a4 (by rw[Bt];exact O) P;simp only[Ae];rw[AT xs k S];exact this
   have z:(Ae F xs d (k+1)).2=(F 0 (nth d k) (Ae F xs d k).2).2:=by simp only[Ae];rw[AT xs k S]
   have J:=qh j;clear j;have G:=qh D;clear D;have K:=qh z;clear z;clear U Q A u
   go_wp2_with fail
   refine J.o.mono ?_;rintro e w'⟨rfl,rfl⟩
   go_wp2_with (at_builtin;refine wpList_append_own _ rfl (.tmp 46) (.tmp 48) 199 rfl w.heap.size 179 i0 (.int .u64 0) 1 8 underlying199 hi a5 a6 a7 rfl (by decide) _ _ _ rfl (World.ownsRow.alloc a1.o _) (Ad wr.heap.size 0) 1 1 [.int .u64 ((F 0 (nth d k) (Ae F xs d k).2).1:Nat)] rfl rfl (cell_one_new _ _ _) (one_cell _ _) (by unfold maxLen;omega) (by omega) (by simp;omega) ?_;intro E B l h _)
   obtain⟨Z,hb⟩:=G.o s.o E B _ l h;clear l h;have L:=qh Z;clear Z;have I:=qh hb;clear hb;go_wp2;go_roundw
   case rel=>exact⟨k+1,by omega,by go_num,by rw[K.o],L.o,I.o⟩
   simp[intOf];omega
  have j:=R.o 0 0 (Ae F xs d k).2 wr H.o AO AO a2.o.2;have D:Own wr w.heap.size 179 .u64 (.slice X k C) (Ae F xs d k).1->∀(E:Value) (B:World) (o:Obj),B.ownsRow w.heap.size 179 1 E (k+1) (vals .u64 (Ae F xs d k).1++[.int .u64 ((F 0 0 (Ae F xs d k).2).1:Nat)])->(wr.alloc o).grownBy B (Value.slice X k C).ownBlock->Own B w.heap.size 179 .u64 E (Ae F xs d (k+1)).1/\Below w.heap.size w B:=λN E B o O P=>by
   have:=N.appended H.o a4 (by rw[Bt];exact O) P;simp only[Ae];rw[AT xs k S,AT d k T];exact this
  have z:(Ae F xs d (k+1)).2=(F 0 0 (Ae F xs d k).2).2:=by simp only[Ae];rw[AT xs k S,AT d k T]
  have J:=qh j;clear j;have G:=qh D;clear D;have K:=qh z;clear z;clear U Q A u
  go_wp2_with fail
  refine J.o.mono ?_;rintro e w'⟨rfl,rfl⟩
  go_wp2_with (at_builtin;refine wpList_append_own _ rfl (.tmp 46) (.tmp 48) 199 rfl w.heap.size 179 i0 (.int .u64 0) 1 8 underlying199 hi a5 a6 a7 rfl (by decide) _ _ _ rfl (World.ownsRow.alloc a1.o _) (Ad wr.heap.size 0) 1 1 [.int .u64 ((F 0 0 (Ae F xs d k).2).1:Nat)] rfl rfl (cell_one_new _ _ _) (one_cell _ _) (by unfold maxLen;omega) (by omega) (by simp;omega) ?_;intro E B l h _)
  obtain⟨Z,hb⟩:=G.o s.o E B _ l h;clear l h;have L:=qh Z;clear Z;have I:=qh hb;clear hb;go_wp2;go_roundw
  case rel=>exact⟨k+1,by omega,by go_num,by rw[K.o],L.o,I.o⟩
  simp[intOf];omega
 go_wp2_with fail
 have a3:k=max xs.length d.length+1:=by omega
 have ht:=EN X C (Ae F xs d k).1 wr (by rw[Bt];exact s.o.sl);rw[Bt]at ht;refine ht.mono ?_;rintro e w'⟨m,hm,rfl,rfl⟩;replace hm:=qh hm;replace a3:=qh a3;go_wp2;go_ret;have W:=Eb hF sx sy k;refine⟨_,rfl,?_,H.o⟩;rw[<-a3.o,<-FC W.1 hm.o.1 hm.o.2.1 hm.o.2.2];exact s.o.take hm.o.1
def Un(g:FuncId)(Y:Array Value)(F:Nat->Nat->Nat->Nat × Nat)(M:Nat)(vx vy:Value)(xs d:List Nat)(w:World)
  (he:∀args w,(callFunc g args).run prog w=.ok (.enter g args) w) (hF:StepOk F M) (R:ClosOk g Y F M w)
  (b5:d.length<=xs.length) (hx:Sl w .u64 vx xs) (hy:Sl w .u64 vy d) (sx:Small xs) (sy:Small d) (lx:xs.length<=100000) :
  Calls prog 228 #[vx,vy,.func (.func g) #[] Y] w (EachEnd (bval (Ae F xs d (max xs.length d.length+1)).1) w):=by
 obtain⟨i0,hi,a5,a6,a7⟩:=info_parts FY;obtain⟨ax,cx,bx,ox,rfl,Q,b3,a9,a8,u⟩:=hx.open;obtain⟨ay,cy,b1,oy,rfl,U,b4,b0,b2,A⟩:=hy.open;unfold maxLen at a9 b0;replace R:=qh R;clear hx hy
 go_enter func228,ntmps228
 go_wp2
 go_loopw [7,8,19] (λv c i wr=>∃k:Nat,k<=max xs.length d.length+1/\i=.int .i64 k/\c=.int .u64 ((Ae F xs d k).2:Nat)/\Own wr w.heap.size 179 .u64 v (Ae F xs d k).1/\Below w.heap.size w wr)
  (λ_ _ i _=>max xs.length d.length+1-(intOf i).toNat)
 case atStart=>exact⟨0,Nat.zero_le _,rfl,rfl,Own.nil _ _ _ _,blr⟩
 obtain⟨k,hk,rfl,rfl,s,hb⟩:=hrel;obtain⟨X,C,rfl⟩:=s.shape;rw[Bt]at s;rw[Bt];replace s:=qh s;have H:=qh hb;clear hb;have a4:=H.o.size;by_cases b6:k<max xs.length d.length+1
 ·have W:=Eb hF sx sy k;have a2:=qh W;clear W;have a1:Hd (wr.ownsRow w.heap.size 179 1 (.slice X k C) k (vals .u64 (Ae F xs d k).1)):=qh (by have:=s.o.raw;rw[Bt]at this;exact this)
  rcases Nat.lt_or_ge k xs.length with S|S
  rcases Nat.lt_or_ge k d.length with T|T
  rotate_left 2
  obtain T:d.length<=k:=by omega
  rotate_left 1
  ·
   obtain rfl:=Q<|Nat.lt_of_le_of_lt nzl S;have c1:=(H.o.cell (p:=(Ad bx (ox+k))) (a8 (Nat.lt_of_le_of_lt nzl S))).trans (u k S);obtain rfl:=U<|Nat.lt_of_le_of_lt nzl T;have c2:=(H.o.cell (p:=(Ad b1 (oy+k))) (b2 (Nat.lt_of_le_of_lt nzl T))).trans (A k T);have j:=R.o (nth xs k) (nth d k) (Ae F xs d k).2 wr H.o (sx k) (sy k) a2.o.2;have D:Own wr w.heap.size 179 .u64 (.slice X k C) (Ae F xs d k).1->∀(E:Value) (B:World) (o:Obj),B.ownsRow w.heap.size 179 1 E (k+1) (vals .u64 (Ae F xs d k).1++[.int .u64 ((F (nth xs k) (nth d k) (Ae F xs d k).2).1:Nat)])->(wr.alloc o).grownBy B (Value.slice X k C).ownBlock->Own B w.heap.size 179 .u64 E (Ae F xs d (k+1)).1/\Below w.heap.size w B:=λN E B o O P=>by
    have:=N.appended H.o a4 (by rw[Bt];exact O) P;simp only[Ae];exact this
   have z:(Ae F xs d (k+1)).2=(F (nth xs k) (nth d k) (Ae F xs d k).2).2:=by simp only[Ae]
   have J:=qh j;clear j;have G:=qh D;clear D;have K:=qh z;clear z;clear Q U u A
   go_wp2_with fail
   refine J.o.mono ?_;rintro e w'⟨rfl,rfl⟩
   go_wp2_with (at_builtin;refine wpList_append_own _ rfl (.tmp 46) (.tmp 48) 199 rfl w.heap.size 179 i0 (.int .u64 0) 1 8 underlying199 hi a5 a6 a7 rfl (by decide) _ _ _ rfl (World.ownsRow.alloc a1.o _) (Ad wr.heap.size 0) 1 1 [.int .u64 ((F (nth xs k) (nth d k) (Ae F xs d k).2).1:Nat)] rfl rfl (cell_one_new _ _ _) (one_cell _ _) (by unfold maxLen;omega) (by omega) (by simp;omega) ?_;intro E B l h _)
   obtain⟨Z,hb⟩:=G.o s.o E B _ l h;clear l h;have L:=qh Z;clear Z;have I:=qh hb;clear hb;go_wp2;go_roundw
   case rel=>exact⟨k+1,by omega,by go_num,by rw[K.o],L.o,I.o⟩
   simp[intOf];omega
  ·
   obtain rfl:=Q<|Nat.lt_of_le_of_lt nzl S;have c1:=(H.o.cell (p:=(Ad bx (ox+k))) (a8 (Nat.lt_of_le_of_lt nzl S))).trans (u k S);have j:=R.o (nth xs k) 0 (Ae F xs d k).2 wr H.o (sx k) AO a2.o.2;have D:Own wr w.heap.size 179 .u64 (.slice X k C) (Ae F xs d k).1->∀(E:Value) (B:World) (o:Obj),B.ownsRow w.heap.size 179 1 E (k+1) (vals .u64 (Ae F xs d k).1++[.int .u64 ((F (nth xs k) 0 (Ae F xs d k).2).1:Nat)])->(wr.alloc o).grownBy B (Value.slice X k C).ownBlock->Own B w.heap.size 179 .u64 E (Ae F xs d (k+1)).1/\Below w.heap.size w B:=λN E B o O P=>by
    have:=N.appended H.o a4 (by rw[Bt];exact O) P;simp only[Ae];rw[AT d k T];exact this
   have z:(Ae F xs d (k+1)).2=(F (nth xs k) 0 (Ae F xs d k).2).2:=by simp only[Ae];rw[AT d k T]
   have J:=qh j;clear j;have G:=qh D;clear D;have K:=qh z;clear z;clear Q U u A
   go_wp2_with fail
   refine J.o.mono ?_;rintro e w'⟨rfl,rfl⟩
   go_wp2_with (at_builtin;refine wpList_append_own _ rfl (.tmp 46) (.tmp 48) 199 rfl w.heap.size 179 i0 (.int .u64 0) 1 8 underlying199 hi a5 a6 a7 rfl (by decide) _ _ _ rfl (World.ownsRow.alloc a1.o _) (Ad wr.heap.size 0) 1 1 [.int .u64 ((F (nth xs k) 0 (Ae F xs d k).2).1:Nat)] rfl rfl (cell_one_new _ _ _) (one_cell _ _) (by unfold maxLen;omega) (by omega) (by simp;omega) ?_;intro E B l h _)
   obtain⟨Z,hb⟩:=G.o s.o E B _ l h;clear l h;have L:=qh Z;clear Z;have I:=qh hb;clear hb;go_wp2;go_roundw
   case rel=>exact⟨k+1,by omega,by go_num,by rw[K.o],L.o,I.o⟩
   simp[intOf];omega
  have j:=R.o 0 0 (Ae F xs d k).2 wr H.o AO AO a2.o.2;have D:Own wr w.heap.size 179 .u64 (.slice X k C) (Ae F xs d k).1->∀(E:Value) (B:World) (o:Obj),B.ownsRow w.heap.size 179 1 E (k+1) (vals .u64 (Ae F xs d k).1++[.int .u64 ((F 0 0 (Ae F xs d k).2).1:Nat)])->(wr.alloc o).grownBy B (Value.slice X k C).ownBlock->Own B w.heap.size 179 .u64 E (Ae F xs d (k+1)).1/\Below w.heap.size w B:=λN E B o O P=>by
   have:=N.appended H.o a4 (by rw[Bt];exact O) P;simp only[Ae];rw[AT xs k S,AT d k T];exact this
  have z:(Ae F xs d (k+1)).2=(F 0 0 (Ae F xs d k).2).2:=by simp only[Ae];rw[AT xs k S,AT d k T]
  have J:=qh j;clear j;have G:=qh D;clear D;have K:=qh z;clear z;clear Q U u A
  go_wp2_with fail
  refine J.o.mono ?_;rintro e w'⟨rfl,rfl⟩
  go_wp2_with (at_builtin;refine wpList_append_own _ rfl (.tmp 46) (.tmp 48) 199 rfl w.heap.size 179 i0 (.int .u64 0) 1 8 underlying199 hi a5 a6 a7 rfl (by decide) _ _ _ rfl (World.ownsRow.alloc a1.o _) (Ad wr.heap.size 0) 1 1 [.int .u64 ((F 0 0 (Ae F xs d k).2).1:Nat)] rfl rfl (cell_one_new _ _ _) (one_cell _ _) (by unfold maxLen;omega) (by omega) (by simp;omega) ?_;intro E B l h _)
  obtain⟨Z,hb⟩:=G.o s.o E B _ l h;clear l h;have L:=qh Z;clear Z;have I:=qh hb;clear hb;go_wp2;go_roundw
  case rel=>exact⟨k+1,by omega,by go_num,by rw[K.o],L.o,I.o⟩
  simp[intOf];omega
 go_wp2_with fail
 have a3:k=max xs.length d.length+1:=by omega
 have ht:=EN X C (Ae F xs d k).1 wr (by rw[Bt];exact s.o.sl);rw[Bt]at ht;refine ht.mono ?_;rintro e w'⟨m,hm,rfl,rfl⟩;replace hm:=qh hm;replace a3:=qh a3;go_wp2;go_ret;have W:=Eb hF sx sy k;refine⟨_,rfl,?_,H.o⟩;rw[<-a3.o,<-FC W.1 hm.o.1 hm.o.2.1 hm.o.2.2];exact s.o.take hm.o.1
def JC(g:FuncId)(c:Array Value)(F:Nat->Nat->Nat->Nat × Nat)(M:Nat)(j k:Value)(xs h:List Nat)(w:World)
  (m:∀args w,(callFunc g args).run prog w=.ok (.enter g args) w) (l:StepOk F M) (i:ClosOk g c F M w)
  (o:Sl w .u64 j xs) (p:Sl w .u64 k h) (s:Small xs) (u:Small h) (z:xs.length<=100000) (A:h.length<=100000) :
  Calls prog 228 #[j,k,.func (.func g) #[] c] w (EachEnd (bval (Ae F xs h (max xs.length h.length+1)).1) w):=by
 rcases Nat.lt_or_ge xs.length h.length with d|d
 ·exact Uo g c F M j k xs h w m l i d o p s u A
 exact Un g c F M j k xs h w m l i d o p s u z
variable{c:Nat}
def BE(a b c:Nat):Nat × Nat:=((a+b+c) % 1000000000,(a+b+c) / 1000000000)
def BI(a b c:Nat):Nat × Nat:=((a+1000000000-b-c) % 1000000000,1-(a+1000000000-b-c) / 1000000000)
def BN(k:Nat)(a _b c:Nat):Nat × Nat:=((a*k+c) % 1000000000,(a*k+c) / 1000000000)
def OH:StepOk BE 1:=λa b c d hb g=>by
 rw[An]at *;simp only[BE];omega
def Kl:StepOk BI 1:=λa b c d hb g=>by
 rw[An]at *;simp only[BI];omega
def Oo{a:Nat}(d:a<BB)(h:k<BB)(g:c<BB):a*k+c<1000000000*1000000000:=by
 rw[An]at *;have:a*k<=999999999*999999999:=Nat.mul_le_mul (by omega) (by omega);omega
def OI(g:k<BB):StepOk (BN k) 999999999:=λa b c d hb h=>by
 have:=Oo d g (show c<BB by rw[An];omega);simp only[BN,An];exact⟨Nat.mod_lt _ (by omega),by omega⟩
def To(w:World):ClosOk 229 #[] BE 1 w:=λa b c wr _ d hb g=>by
 rw[An]at d hb;simp only[BE]
 go_enter func229,ntmps229
 go_wp2;go_ret2;exact⟨rfl,rfl⟩
def Tn(w:World):ClosOk 236 #[] BI 1 w:=λa b c wr _ d hb g=>by
 rw[An]at d hb;simp only[BI]
 go_enter func236,ntmps236
 go_wp2;go_ret2;exact⟨XZ (by omega) (by omega),rfl⟩
def Tp(k bx:Nat)(w:World)(l:k<BB)(g:bx<w.heap.size)(h:w.cell? (Ad bx 0)=some (.int .u64 (k:Int))):
  ClosOk 248 #[.pointer (some (Ad bx 0))] (BN k) 999999999 w:=λa b c wr hb i _ j=>by
 have m:=Oo i l (show c<BB by rw[An];omega);have d:=(hb.cell (p:=(Ad bx 0)) g).trans h;have s:0<=(a:Int)*(k:Int):=Int.mul_nonneg (Int.natCast_nonneg _) (Int.natCast_nonneg _);have o:(a:Int)*(k:Int)+(c:Int)<1000000000000000000:=by rw[<-Int.natCast_mul];omega
 clear h m;simp only[BN]
 go_enter func248,ntmps248
 go_wp2;go_ret2;exact⟨rfl,rfl⟩
def Cs{xs:List Nat}(h:xs.length<=k):xs.take k=xs:=List.take_of_length_le h
def Uk(xs d:List Nat)(k:Nat):bval (Ae BE xs d k).1+BB ^ k*(Ae BE xs d k).2=bval (xs.take k)+bval (d.take k):=by
 induction k with
 |zero=>simp[Ae,bval]
 |succ k ih =>
  simp only[Ae];rw[EV,Bt,BC,BC,Nat.pow_succ];generalize (Ae BE xs d k).2=c at *;generalize bval (Ae BE xs d k).1=l at *;generalize nth xs k=a;generalize nth d k=b;have h:(BE a b c).1+BB*(BE a b c).2=a+b+c:=by simp only[BE,An];omega
  have g:BB ^ k*(a+b+c)=BB ^ k*(BE a b c).1+BB ^ k*BB*(BE a b c).2:=by rw[<-h,Nat.mul_add,<-Nat.mul_assoc]
  rw[Nat.mul_add,Nat.mul_add]at g;omega
theorem Um(F:Nat->Nat->Nat->Nat × Nat)(xs c:List Nat)(k:Nat):(Ae F xs c (k+1)).2=(F (nth xs k) (nth c k) (Ae F xs c k).2).2:=rfl
def UX(h:c<=1):(BE 0 0 c).2=0:=by simp only[BE];omega
def Xt(xs c:List Nat)(j:Small xs)(k:Small c)(n:Nat)(d:xs.length<=n)(g:c.length<=n):bval (Ae BE xs c (n+1)).1=bval xs+bval c:=by
 have h:=Uk xs c (n+1);rw[Cs (Nat.le_succ_of_le d),Cs (Nat.le_succ_of_le g)]at h;have i:(Ae BE xs c (n+1)).2=0:=by
  rw[Um,AT xs _ d,AT c _ g];exact UX (Eb OH j k n).2
 rw[i,Nat.mul_zero,Nat.add_zero]at h;exact h
def Xs(xs c:List Nat)(d:Small xs)(g:Small c):bval (Ae BE xs c (max xs.length c.length+1)).1=bval xs+bval c :=
 Xt xs c d g _ (Nat.le_max_left _ _) (Nat.le_max_right _ _)
def Uj(xs d:List Nat)(g:Small xs)(i:Small d)(k:Nat):bval (Ae BI xs d k).1+bval (d.take k)=bval (xs.take k)+BB ^ k*(Ae BI xs d k).2:=by
 induction k with
 |zero=>simp[Ae,bval]
 |succ k ih =>
  have o:=(Eb Kl g i k).2;have m:=g k;have hb:=i k;simp only[Ae];rw[EV,Bt,BC,BC,Nat.pow_succ];generalize (Ae BI xs d k).2=c at *;generalize bval (Ae BI xs d k).1=l at *;generalize nth xs k=a at *;generalize nth d k=b at *;have h:(BI a b c).1+b+c=a+BB*(BI a b c).2:=by rw[An]at *;simp only[BI];omega
  have j:BB ^ k*((BI a b c).1+b+c)=BB ^ k*a+BB ^ k*BB*(BI a b c).2:=by rw[h,Nat.mul_add,<-Nat.mul_assoc]
  rw[Nat.mul_add,Nat.mul_add]at j;omega
def Wd(xs d:List Nat)(k:Small xs)(m:Small d)(s:bval d<=bval xs)(n:Nat)(o:xs.length<=n)(p:d.length<=n):bval (Ae BI xs d n).1=bval xs-bval d:=by
 have h:=Uj xs d k m n;rw[Cs o,Cs p]at h;have g:=Eb Kl k m n;have i:=Ce g.1;rw[Bt]at i;generalize bval (Ae BI xs d n).1=l at *;generalize (Ae BI xs d n).2=c at *
 rcases Nat.eq_zero_or_pos c with j|j
 ·subst j;rw[Nat.mul_zero,Nat.add_zero]at h;omega
 have:c=1:=by have:=g.2;omega
 subst this;rw[Nat.mul_one]at h;omega
def Wc(xs c:List Nat)(g:Small xs)(h:Small c)(d:bval c<=bval xs):bval (Ae BI xs c (max xs.length c.length+1)).1=bval xs-bval c :=
 Wd xs c g h d _ (Nat.le_succ_of_le (Nat.le_max_left _ _)) (Nat.le_succ_of_le (Nat.le_max_right _ _))
def Ul(m:Nat)(xs:List Nat)(k:Nat):bval (Ae (BN m) xs [] k).1+BB ^ k*(Ae (BN m) xs [] k).2=bval (xs.take k)*m:=by
 induction k with
 |zero=>simp[Ae,bval]
 |succ k ih =>
  simp only[Ae];rw[EV,Bt,BC,Nat.pow_succ,Nat.add_mul,Nat.mul_assoc (BB ^ k) (nth xs k) m];generalize (Ae (BN m) xs [] k).2=c at *;generalize bval (Ae (BN m) xs [] k).1=l at *;generalize nth xs k=a;have h:(BN m a (nth [] k) c).1+BB*(BN m a (nth [] k) c).2=a*m+c:=by simp only[BN,An];omega
  have d:BB ^ k*(a*m+c)=BB ^ k*(BN m a (nth [] k) c).1+BB ^ k*BB*(BN m a (nth [] k) c).2:=by rw[<-h,Nat.mul_add,<-Nat.mul_assoc]
  rw[Nat.mul_add]at d;omega
def YD{m:Nat}(d:m<BB)(xs:List Nat)(g:Small xs):bval (Ae (BN m) xs [] (max xs.length ([]:List Nat).length+1)).1=bval xs*m:=by
 have h:=Ul m xs (max xs.length ([]:List Nat).length+1);rw[Cs (by omega)]at h;have c:(Ae (BN m) xs [] (max xs.length ([]:List Nat).length+1)).2=0:=by
  have:=(Eb (OI d) g Gz (max xs.length ([]:List Nat).length)).2;simp only[Ae,BN];rw[AT xs _ (by omega),Nat.zero_mul,Nat.zero_add];exact Nat.div_eq_of_lt (by omega)
 rw[c]at h;simpa using h
def enter46:∀args w,(callFunc 229 args).run prog w=.ok (.enter 229 args) w:=λargs w=>by kernel_rfl
def enter52:∀args w,(callFunc 236 args).run prog w=.ok (.enter 236 args) w:=λargs w=>by kernel_rfl
def enter63:∀args w,(callFunc 248 args).run prog w=.ok (.enter 248 args) w:=λargs w=>by kernel_rfl
def Xr(g h:Value)(m n:Nat)(w:World)(i:Sl w .u64 g (toB m))(j:Sl w .u64 h (toB n))(k:(toB m).length<=100000)(l:(toB n).length<=100000):
  Calls prog 219 #[g,h] w (EachEnd (m+n) w):=by
 have c:=JC 229 #[] BE 1 g h (toB m) (toB n) w enter46 OH (To w) i j (Ba m) (Ba n) k l;rw[Xs _ _ (Ba m) (Ba n),Bb,Bb]at c;replace c:=qh c;clear i j
 go_enter func219,ntmps219
 go_wp2_with fail
 refine c.o.mono ?_;rintro e o⟨v,rfl,d⟩;replace d:=qh d;go_wp2;go_ret;exact⟨v,rfl,d.o⟩
def Wb(h i:Value)(m n:Nat)(w:World)(j:Sl w .u64 h (toB m))(k:Sl w .u64 i (toB n))(l:(toB m).length<=100000)(o:(toB n).length<=100000)(d:n<=m):
  Calls prog 222 #[h,i] w (EachEnd (m-n) w):=by
 have c:=JC 236 #[] BI 1 h i (toB m) (toB n) w enter52 Kl (Tn w) j k (Ba m) (Ba n) l o;rw[Wc _ _ (Ba m) (Ba n) (by rw[Bb,Bb];exact d),Bb,Bb]at c;replace c:=qh c;clear j k
 go_enter func222,ntmps222
 go_wp2_with fail
 refine c.o.mono ?_;rintro e p⟨v,rfl,g⟩;replace g:=qh g;go_wp2;go_ret;exact⟨v,rfl,g.o⟩
def PZ(i:Value)(m k:Nat)(w:World)(h:k<BB)(j:Sl w .u64 i (toB m))(l:(toB m).length<=100000):
  Calls prog 237 #[i,.int .u64 (k:Int)] w (EachEnd (m*k) w):=by
 have c:Below w.heap.size w (w.alloc (.cells #[.int .u64 (k:Int)] 179)):=blr.alloc nlr _;have d:=JC 248 #[.pointer (some (Ad w.heap.size 0))] (BN k) 999999999 i (.slice none 0 0) (toB m) [] (w.alloc (.cells #[.int .u64 (k:Int)] 179)) enter63 (OI h)
  (Tp k w.heap.size _ h (by simp) (by simp)) (j.below c nlr) (Sl.nil _ _) (Ba m) Gz l (by simp)
 rw[YD h _ (Ba m),Bb]at d;replace d:=qh d;clear j;replace c:=qh c
 go_enter func237,ntmps237
 go_wp2_with fail
 refine d.o.mono ?_;rintro e o⟨v,rfl,g⟩;replace g:=qh g;go_wp2;go_ret;exact⟨v,rfl,g.o.1.mono (by simp),c.o.trans (g.o.2.mono (by simp))⟩
end
end Go.Proofs.YteappjogmnogcaaGreatDoor
