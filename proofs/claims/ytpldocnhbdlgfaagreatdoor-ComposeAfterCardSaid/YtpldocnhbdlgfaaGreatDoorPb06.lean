/- Parts. -/
import Derived.Test.YtpldocnhbdlgfaaGreatDoorPb04
import Derived.Test.YtpldocnhbdlgfaaGreatDoorPb01
namespace Go.Proofs.YtpldocnhbdlgfaaGreatDoor
set_option maxRecDepth 100000
set_option linter.all false
set_option maxHeartbeats 16000000
open Go Tryz
section
open Go.RowKit
variable{i n q r:Nat}{c d g j k m xs:List Nat}
structure Est(us vs:List Nat)(n q r:Nat):Prop where
 top:q*nth vs (n-1)+r=nth us n*BB+nth us (n-1)
 ge:bval us / bval vs<=q
structure DivIn(us vs:List Nat)(n:Nat):Prop where
 su:Small us
 sv:Small vs
 n1:1<=n
 lu:us.length=n+1
 lv:vs.length=n
 v1:1<=nth vs (n-1)
 lt:bval us<bval vs*BB
def Of(h:1<=n):BB ^ n=BB ^ (n-1)*BB:=by
 obtain⟨k,rfl⟩:∃k,n=k+1:=⟨n-1,by omega⟩;exact Nat.pow_succ ..
def Og(h:2<=n):BB ^ (n-1)=BB ^ (n-2)*BB:=by
 obtain⟨k,rfl⟩:∃k,n=k+2:=⟨n-2,by omega⟩;exact Nat.pow_succ ..
def GU(h:xs.length=n+1)(i:1<=n):bval xs=bval (xs.take (n-1))+BB ^ (n-1)*(nth xs n*BB+nth xs (n-1)):=by
 have c:=By xs n;rw[Cm (by omega)]at c;have d:=By xs (n-1);rw[show n-1+1=n by omega]at d;have g:BB ^ n=BB ^ (n-1)*BB:=Of i;rw[c,d,g,Nat.mul_add,<-Nat.mul_assoc,Nat.mul_assoc (BB ^ (n-1)) BB,Nat.mul_comm BB (nth xs n)];rw[Nat.mul_assoc];omega
def GT(h:xs.length=n)(d:1<=n):bval xs=bval (xs.take (n-1))+BB ^ (n-1)*nth xs (n-1):=by
 have c:=By xs (n-1);rw[show n-1+1=n by omega,Cm (by omega)]at c;exact c
def Gw(h:Small xs)(k:Nat)(c:k<=xs.length):bval (xs.take k)<BB ^ k:=by
 have:=Ca<|Ez h k;rwa [List.length_take,Nat.min_eq_left c]at this
def DivIn.vpos(h:DivIn d c n):BB ^ (n-1)<=bval c:=by
 rw[GT h.lv h.n1];have:BB ^ (n-1)*1<=BB ^ (n-1)*nth c (n-1):=Nat.mul_le_mul_left _ h.v1;omega
def DivIn.vpos'(h:DivIn d c n):0<bval c:=Nat.lt_of_lt_of_le (Nat.pow_pos AL) h.vpos
def DivIn.qlt(h:DivIn c d n):bval c / bval d<BB:=Nat.div_lt_of_lt_mul h.lt
theorem Est.start(h:DivIn c d n):
  Est c d n ((nth c n*BB+nth c (n-1)) / nth d (n-1)) ((nth c n*BB+nth c (n-1)) % nth d (n-1)):=by
 refine⟨by rw[Nat.mul_comm];exact Nat.div_add_mod _ _,?_⟩;rw[Nat.le_div_iff_mul_le h.v1];have i:=Nat.div_mul_le_self (bval c) (bval d);generalize bval c / bval d=Q at *;have j:=GU h.lu h.n1;have k:=Gw h.su (n-1) (by rw[h.lu];omega);have l:=GT h.lv h.n1;have m:Q*(BB ^ (n-1)*nth d (n-1))<=Q*bval d:=Nat.mul_le_mul_left _ (by omega);have g:BB ^ (n-1)*(Q*nth d (n-1))<BB ^ (n-1)*(nth c n*BB+nth c (n-1)+1):=by
  rw[Nat.mul_left_comm,Nat.mul_add];omega
 have:=Nat.lt_of_mul_lt_mul_left g;omega
def Md(h:xs.length=n+1)(g:2<=n):bval xs=bval (xs.take (n-2))+BB ^ (n-2)*((nth xs n*BB+nth xs (n-1))*BB+nth xs (n-2)):=by
 have c:=By xs (n-2);rw[show n-2+1=n-1 by omega]at c;rw[GU h (by omega),c];have d:BB ^ (n-1)=BB ^ (n-2)*BB:=Og g;rw[d,Nat.mul_add (BB ^ (n-2)),Nat.mul_assoc,Nat.mul_comm BB (nth xs n*BB+nth xs (n-1))];omega
def Mc(h:xs.length=n)(c:2<=n):bval xs=bval (xs.take (n-2))+BB ^ (n-2)*(nth xs (n-1)*BB+nth xs (n-2)):=by
 have:=GU (n:=n-1) (xs:=xs) (by omega) (by omega)
 rwa [show n-1-1=n-2 by omega]at this
def Est.back(h:DivIn d c n)(k:Est d c n q r)(i:BB<=q\/(2<=n/\r*BB+nth d (n-2)<q*nth c (n-2))):
  1<=q/\Est d c n (q-1) (r+nth c (n-1)):=by
 have g:bval d / bval c<q:=by
  rcases i with i|⟨l,i⟩
  ·exact Nat.lt_of_lt_of_le h.qlt i
  rw[Nat.div_lt_iff_lt_mul h.vpos'];have p:=Md h.lu l;have s:=Mc h.lv l;have u:=Gw h.su (n-2) (by rw[h.lu];omega);have m:(nth d n*BB+nth d (n-1))*BB+nth d (n-2)+1<=q*(nth c (n-1)*BB+nth c (n-2)):=by
   rw[<-k.top,Nat.add_mul,Nat.mul_add,Nat.mul_assoc];omega
  have o:BB ^ (n-2)*((nth d n*BB+nth d (n-1))*BB+nth d (n-2)+1)<=BB ^ (n-2)*(q*(nth c (n-1)*BB+nth c (n-2))):=Nat.mul_le_mul_left _ m;have z:BB ^ (n-2)*(q*(nth c (n-1)*BB+nth c (n-2)))<=q*bval c:=by
   rw[Nat.mul_left_comm];exact Nat.mul_le_mul_left _ (by omega)
  rw[Nat.mul_add (BB ^ (n-2)) _ 1,Nat.mul_one]at o;omega
 have j:1<=q:=Nat.lt_of_le_of_lt nzl g;refine⟨j,?_,Nat.le_sub_one_of_lt g⟩;clear g;have:=k.top;have e:q*nth c (n-1)=(q-1)*nth c (n-1)+nth c (n-1):=by
  have:q=q-1+1:=by omega
  rw[this,Nat.add_mul,Nat.one_mul,Nat.add_sub_cancel]
 omega
def Est.done(h:DivIn d c n)(k:Est d c n q r)(p:q<BB)(s:n=1\/BB<=r\/(2<=n/\q*nth c (n-2)<=r*BB+nth d (n-2))):
  q*bval c<bval d+bval c:=by
 by_cases o:n=1
 ·subst o;have g:=GU h.lu (by omega);have j:=GT h.lv (by omega);simp only[Nat.sub_self,Nat.pow_zero,Nat.one_mul,List.take_zero,show bval []=0 from rfl,Nat.zero_add]at g j;have:=k.top;simp only[Nat.sub_self]at this;have:=h.vpos';rw[j]at *;omega
 have i:2<=n:=by have:=h.n1;omega
 have u:q*nth c (n-2)<=r*BB+nth d (n-2):=by
  rcases s with g|g|g
  ·omega
  ·have j:q*nth c (n-2)<=BB*BB:=Nat.mul_le_mul (by omega) (by have:=h.sv<|n-2;omega);have l:BB*BB<=r*BB:=Nat.mul_le_mul_right _ g;omega
  exact g.2
 have g:=Md h.lu i;have j:=Mc h.lv i;have l:=Gw h.sv (n-2) (by rw[h.lv];omega);have m:q*(nth c (n-1)*BB+nth c (n-2))<=(nth d n*BB+nth d (n-1))*BB+nth d (n-2):=by
  rw[<-k.top,Nat.add_mul,Nat.mul_add,Nat.mul_assoc];omega
 have z:BB ^ (n-2)*(q*(nth c (n-1)*BB+nth c (n-2)))<=BB ^ (n-2)*((nth d n*BB+nth d (n-1))*BB+nth d (n-2)):=Nat.mul_le_mul_left _ m;have A:q*bval c=q*bval (c.take (n-2))+BB ^ (n-2)*(q*(nth c (n-1)*BB+nth c (n-2))):=by
  rw[j,Nat.mul_add,Nat.mul_left_comm]
 have B:q*bval (c.take (n-2))<BB ^ (n-1):=by
  have e:BB ^ (n-1)=BB*BB ^ (n-2):=by rw[Nat.mul_comm];exact Og i
  rw[e];exact Nat.mul_lt_mul_of_lt_of_le p (by omega) (Nat.pow_pos AL)
 have:=h.vpos;omega
structure SubIn(us vs us':List Nat)(q i c bo:Nat):Prop where
 len:us'.length=us.length
 small:Small us'
 carry:c<BB
 borrow:bo<=1
 same:∀j,i<=j->nth us' j=nth us j
 val:bval (us'.take i)+q*bval (vs.take i)=bval (us.take i)+BB ^ i*(c+bo)
theorem SubIn.start(c d:List Nat)(q:Nat)(h:Small c):SubIn c d c q 0 0 0:=⟨rfl,h,AL,by omega,λ_ _=>rfl,by simp[bval]⟩
theorem take_set(L:List Nat)(i v:Nat):(L.set i v).take i=L.take i:=by
 rw[List.take_set];apply List.set_eq_of_length_le;rw[List.length_take];omega
def dSub(u c b x:Nat):Nat:=u+1000000000-(c+x) % 1000000000-b
def Mn{u c b x:Nat}(hb:b<=1):((u:Int)+1000000000-((c:Int)+(x:Int)) % 1000000000-(b:Int))=((dSub u c b x:Nat):Int):=by unfold dSub;omega
def SubIn.step{c o:Nat}(h:SubIn k g m q i c o)(G:Small g)(E:q<BB)(hi:i<k.length):
  SubIn k g (m.set i (dSub (nth k i) c o (q*nth g i) % 1000000000)) q (i+1) ((c+q*nth g i) / 1000000000) (1-dSub (nth k i) c o (q*nth g i) / 1000000000):=by
 have hb:=JW (l:=0) AL h.carry E (G i);rw[Nat.zero_add]at hb;have F:nth k i<BB:=by rw[<-h.same i nlr];exact h.small i
 have p:i<m.length:=by rw[h.len];exact hi
 have s:=h.val;have C:=h.carry;have B:=h.borrow;have I:(c+q*nth g i) % 1000000000<1000000000:=Nat.mod_lt _ (by omega);have D:(c+q*nth g i) % 1000000000+1000000000*((c+q*nth g i) / 1000000000)=c+q*nth g i:=Nat.mod_add_div _ _;rw[Ap]at F C;refine⟨by simp[h.len],Gt h.small _ _ (by rw[Ap];exact Nat.mod_lt _ (by omega)),by rw[Ap];omega,by omega,λj H=>?_,?_⟩
 ·rw[Ff _ _ _ _ p,ifn (by omega)];exact h.same j (by omega)
 rw[By,By g,By k,take_set,Ff _ _ _ _ p,ifp rfl,Nat.mul_add,Nat.pow_succ];generalize hd:dSub (nth k i) c o (q*nth g i)=d at *;unfold dSub at hd;generalize hx:q*nth g i=x at *;have u:q*(BB ^ i*nth g i)=BB ^ i*x:=by rw[Nat.mul_left_comm,hx]
 rw[u];have z:d % 1000000000+x+c+o=nth k i+BB*((c+x) / 1000000000+(1-d / 1000000000)):=by rw[Ap];omega
 have A:BB ^ i*(d % 1000000000+x+c+o)=BB ^ i*nth k i+BB ^ i*BB*((c+x) / 1000000000+(1-d / 1000000000)):=by rw[z,Nat.mul_add,Nat.mul_assoc]
 rw[Nat.mul_add,Nat.mul_add,Nat.mul_add]at A;rw[Nat.mul_add (BB ^ i)]at s;omega
def SubIn.last{c:Nat}(h:SubIn j d g q n c i)(k:d.length=n):(c+q*nth d n) / 1000000000=0:=by
 rw[AP d n (by omega),Nat.mul_zero,Nat.add_zero];have:=h.carry;rw[Ap]at this;exact Nat.div_eq_of_lt this
def SubIn.done{i:List Nat}{k:Nat}(h:SubIn i j d q (n+1) 0 k)(l:i.length=n+1)(m:j.length=n):
  bval d+q*bval j=bval i+BB ^ (n+1)*k/\bval d<BB ^ (n+1):=by
 have c:=h.val;have g:=h.len;rw[Cm (by omega),Cm (by omega),Cm (by omega),Nat.zero_add]at c;have:=Ca h.small;rw[g,l]at this;exact⟨c,this⟩
theorem SubIn.fits(hd:DivIn c d n)(h:SubIn c d g q (n+1) 0 0)(m:bval c / bval d<=q):q=bval c / bval d/\bval g=bval c % bval d:=by
 obtain⟨j,k⟩:=h.done hd.lu hd.lv;rw[Nat.mul_zero,Nat.add_zero]at j;have l:q<=bval c / bval d:=by rw[Nat.le_div_iff_mul_le hd.vpos'];omega
 have i:q=bval c / bval d:=by omega
 refine⟨i,?_⟩;have:=Nat.div_add_mod (bval c) (bval d);rw[<-i,Nat.mul_comm]at this;omega
structure AddIn(us vs us':List Nat)(i c:Nat):Prop where
 len:us'.length=us.length
 small:Small us'
 carry:c<=1
 same:∀j,i<=j->nth us' j=nth us j
 val:bval (us'.take i)+BB ^ i*c=bval (us.take i)+bval (vs.take i)
theorem AddIn.start(c d:List Nat)(h:Small c):AddIn c d c 0 0:=⟨rfl,h,by omega,λ_ _=>rfl,by simp[bval]⟩
def AddIn.step{c:Nat}(h:AddIn d k g i c)(z:Small k)(hi:i<d.length):
  AddIn d k (g.set i ((nth d i+c+nth k i) % 1000000000)) (i+1) ((nth d i+c+nth k i) / 1000000000):=by
 have u:nth d i<BB:=by rw[<-h.same i nlr];exact h.small i
 have m:=z i;have l:i<g.length:=by rw[h.len];exact hi
 have o:=h.val;have A:=h.carry;rw[Ap]at u m;refine⟨by simp[h.len],Gt h.small _ _ (by rw[Ap];exact Nat.mod_lt _ (by omega)),by omega,λj B=>?_,?_⟩
 ·rw[Ff _ _ _ _ l,ifn (by omega)];exact h.same j (by omega)
 rw[By,By k,By d,take_set,Ff _ _ _ _ l,ifp rfl,Nat.pow_succ];generalize nth d i=a at *;generalize nth k i=x at *;have p:(a+c+x) % 1000000000+BB*((a+c+x) / 1000000000)=a+c+x:=by rw[Ap];omega
 have s:BB ^ i*(a+c+x)=BB ^ i*((a+c+x) % 1000000000)+BB ^ i*BB*((a+c+x) / 1000000000):=by rw[Nat.mul_assoc,<-Nat.mul_add,p]
 rw[Nat.mul_add,Nat.mul_add]at s;omega
theorem AddIn.fits{h:List Nat}{c:Nat}(hd:DivIn h d n)(A:SubIn h d m q (n+1) 0 1)(o:AddIn m d g (n+1) c)(L:bval h / bval d<=q)(G:q*bval d<bval h+bval d):
  1<=q/\q-1=bval h / bval d/\bval g=bval h % bval d:=by
 obtain⟨u,H⟩:=A.done hd.lu hd.lv;have k:=o.len;have p:=A.len;have l:=hd.lu;have F:=hd.lv;have i:=o.val;rw[Cm (by omega),Cm (by omega),Cm (by omega)]at i;have C:=Ca o.small;rw[k,p,l]at C;rw[Nat.mul_one]at u;have s:1<=q:=by
  rcases Nat.eq_zero_or_pos q with j|j
  ·subst j;rw[Nat.zero_mul]at u;have:=Ca hd.su;rw[l]at this;omega
  exact j
 have e:q*bval d=(q-1)*bval d+bval d:=by
  have:q=q-1+1:=by omega
  rw[this,Nat.add_mul,Nat.one_mul,Nat.add_sub_cancel]
 have E:c=1:=by
  have:=o.carry
  rcases Nat.eq_zero_or_pos c with j|j
  ·subst j;rw[Nat.mul_zero,Nat.add_zero]at i;omega
  omega
 subst E;rw[Nat.mul_one]at i;have D:(q-1)*bval d<=bval h:=by omega
 have I:bval g=bval h-(q-1)*bval d:=by omega
 have J:bval g<bval d:=by omega
 have z:q-1=bval h / bval d:=by
  have K:q-1<=bval h / bval d:=by rw[Nat.le_div_iff_mul_le hd.vpos'];exact D
  have B:bval h / bval d<q:=by rw[Nat.div_lt_iff_lt_mul hd.vpos'];omega
  omega
 refine⟨s,z,?_⟩;have:=Nat.div_add_mod (bval h) (bval d);rw[<-z,Nat.mul_comm]at this;omega
variable{w w1:World}{r:Option Nat}
def JB(w:World)(r:Option Nat):w.grownBy w r:=⟨rfl,rfl,rfl,nlr,λ_ _ _=>rfl⟩
def TA{i:World}(h:w.grownBy w1 r)(c:w1.grownBy i r):w.grownBy i r :=
 ⟨c.os.trans h.os,c.tape.trans h.tape,c.output.trans h.output,Nat.le_trans h.size c.size,λk g d=>(c.block k (Nat.lt_of_lt_of_le g h.size) d).trans (h.block k g d)⟩
def Do(h:w.grownBy w1 r)(n:Nat):w.grownBy (w1.drewN n) r:=⟨h.os,h.tape,h.output,h.size,h.block⟩
def EX{g:Nat}(h:w.grownBy w1 (some g))(j:Nat)(v:Value):w.grownBy (w1.setCell (Ad g j) v) (some g) :=
 TA h ⟨rfl,rfl,rfl,by simp[World.setCell],λk _ c=>Below.heap_setCell _ _ _ _ (by intro e;apply c;rw[e])⟩
def FX(A c C:List Nat)(i:Nat)(h:i<c.length):nth (A++c++C) (A.length+i)=nth c i:=by
 rw[FU _ _ _ (by rw[List.length_append];omega),FV _ _ _ (by omega),Nat.add_sub_cancel_left]
theorem set_mid(A c C:List Nat)(i v:Nat)(h:i<c.length):(A++c++C).set (A.length+i) v=A++c.set i v++C:=by
 rw[List.set_append_left _ _ (by rw[List.length_append];omega),List.set_append_right _ _ (by omega),Nat.add_sub_cancel_left]
def DigEnd(B g N cap:Nat)(A us C vs:List Nat)(w:World)(e:Ending)(w':World):Prop :=
 ∃us':List Nat,e=.returned (.int .u64 ((bval us / bval vs:Nat):Int))/\us'.length=us.length/\Small us'/\bval us'=bval us % bval vs/\
  Own w' B 196 .u64 (.slice (some (Ad g 0)) N cap) (A++us'++C)/\w.grownBy w' (some g)
set_option maxRecDepth 100000 in
theorem SC(B g N cap f2 bv ov cv n:Nat)(A u C j:List Nat)(w:World)(hN:(A++u++C).length=N)(d2:Own w B 196 .u64 (.slice (some (Ad g 0)) N cap) (A++u++C))
  (hd:DivIn u j n) (hn:n<=100000) (b8:bv≠g) (hv:∀i,i<n->w.cell? (Ad bv (ov+i))=some (.int .u64 ((nth j i:Nat):Int))) :
  Calls prog 236 #[.slice (some (Ad g A.length)) (n+1) f2,.slice (some (Ad bv ov)) n cv] w (DigEnd B g N cap A u C j w):=by
 replace hd:=qh hd;replace hN:=qh hN;have HO:=qh d2;clear d2;replace hv:=qh hv;have h1:=hd.o.n1;have p:=hd.o.lu;replace p:=qh p;have un:w.cell? (Ad g (A.length+n))=some (.int .u64 ((nth u n:Nat):Int)):=by
  have h:=HO.o.cell hN.o (A.length+n) (by rw[<-hN.o,List.length_append,List.length_append,p.o];omega)
  rwa [FX _ _ _ _ (by rw[p.o];omega)]at h
 have i5:w.cell? (Ad g (A.length+(n-1)))=some (.int .u64 ((nth u (n-1):Nat):Int)):=by
  have h:=HO.o.cell hN.o (A.length+(n-1)) (by rw[<-hN.o,List.length_append,List.length_append,p.o];omega)
  rwa [FX _ _ _ _ (by rw[p.o];omega)]at h
 have g4:=hv.o (n-1) (by omega);have i3:=hd.o.v1;have g0:=hd.o.su n;have d5:=hd.o.su<|n-1;rw[Ap]at g0 d5
 go_enter func236,ntmps236
 go_wp2_with fail
 go_quiet (fail)
 go_wp2_with fail
 go_quiet (fail)
 go_upto_block 0 with (fail)
 generalize hw2:(World.drewN _ _)=w2;have m:w.grownBy w2 (some g):=by rw[<-hw2];exact Do (Do (JB _ _) _) _
 have b1:Below w.heap.size w w2:=by rw[<-hw2];exact below_drewN (below_drewN blr _) _
 have o:Own w2 B 196 .u64 (.slice (some (Ad g 0)) N cap) (A++u++C):=HO.o.kept b1 nlr;have e7:=qh m;clear m;have e9:=qh o;clear o;clear hw2 b1 un i5 g4 HO
 go_cut [7,8] from 43 (λq r wx=>∃d K:Nat,q=.int .u64 (d:Int)/\r=.int .u64 (K:Int)/\d<BB/\bval u / bval j<=d/\d*bval j<bval u+bval j/\
   Own wx B 196 .u64 (.slice (some (Ad g 0)) N cap) (A++u++C)/\w.grownBy wx (some g))
 case first =>
  go_wp2_with fail
  go_loopw [7,8] (λq r wr=>∃d K:Nat,q=.int .u64 (d:Int)/\r=.int .u64 (K:Int)/\Est u j n d K/\
    Own wr B 196 .u64 (.slice (some (Ad g 0)) N cap) (A++u++C)/\w.grownBy wr (some g)) (λq _ _=>(intOf q).toNat)
  case atStart =>
   have he:=Est.start hd.o;rw[Ap]at he;exact⟨_,_,by go_num,by go_num,he,e9.o,e7.o⟩
  obtain⟨d,K,rfl,rfl,he,o,m⟩:=hrel;have d4:=he.top;have f9:=hd.o.su<|n-2;have g1:=hd.o.sv<|n-2;have i4:=hd.o.sv<|n-1;rw[Ap]at d4 f9 g1 i4;have j2:d<=999999999999999999:=by
   have:d*1<=d*nth j (n-1):=Nat.mul_le_mul_left _ i3;omega
  have j3:K<=999999999999999999:=by omega
  have f7:(((n:Int)-1).toNat)=n-1:=by omega
  have g4:wr.cell? (Ad bv (ov+(n-1)))=some (.int .u64 ((nth j (n-1):Nat):Int)):=m.cell (hv.o (n-1) (by omega)) (by simpa using b8);have d0:2<=n->wr.cell? (Ad g (A.length+(n-2)))=some (.int .u64 ((nth u (n-2):Nat):Int)):=λh2=>by
   have h:=o.cell hN.o (A.length+(n-2)) (by rw[<-hN.o,List.length_append,List.length_append,p.o];omega)
   rwa [FX _ _ _ _ (by rw[p.o];omega)]at h
  have d1:2<=n->wr.cell? (Ad bv (ov+(n-2)))=some (.int .u64 ((nth j (n-2):Nat):Int)):=λh2=>m.cell (hv.o (n-2) (by omega)) (by simpa using b8);have HE:=qh he;clear he d4 f7;have E:=qh o;clear o;have D:=qh m;clear m;by_cases hA:BB<=d
  ·have a1:=HE.o.back hd.o (.inl hA);have F:=qh a1;clear a1;rw[Ap]at hA;have f3:(1000000000:Int)<=(d:Int):=by omega
   clear d0 d1
   go_wp2_with fail
   go_quiet (fail)
   go_wp2_with fail
   ·have b0:(1000000000:Int)<=(K:Int)+((nth j (n-1):Nat):Int):=by assumption
    have i9:(d:Int)-1<1000000000:=by assumption
    go_meet
    refine⟨d-1,K+nth j (n-1),by go_num,by go_num,by rw[Ap];omega,F.o.2.ge,F.o.2.done hd.o (by rw[Ap];omega) (.inr (.inl (by rw[Ap];omega))),E.o.kept (below_drewN (Below.refl _ wr) _) nlr,Do D.o _⟩
   ·go_roundw
    case rel=>exact⟨d-1,K+nth j (n-1),by go_num,by go_num,F.o.2,E.o.kept (below_drewN (Below.refl _ wr) _) nlr,Do D.o _⟩
    have:=F.o.1;simp[intOf];omega
   go_roundw
   case rel=>exact⟨d-1,K+nth j (n-1),by go_num,by go_num,F.o.2,E.o.kept (below_drewN (Below.refl _ wr) _) nlr,Do D.o _⟩
   have:=F.o.1;simp[intOf];omega
  have e5:d<BB:=by omega
  have Y:=qh e5;clear e5;rw[Ap]at hA;have f3:decide ((1000000000:Int)<=(d:Int))=false:=by simp;omega
  by_cases b4:2<=n
  ·have g3:=d0 b4;have g5:=d1 b4;clear d0 d1;have H:((d:Int)*((nth j (n-2):Nat):Int))=((d*nth j (n-2):Nat):Int):=by simp
   obtain⟨P,hP⟩:=exq<|d*nth j (n-2);have h5:(P:Int)<=999999998000000001:=by
    have:d*nth j (n-2)<=999999999*999999999:=Nat.mul_le_mul (by omega) (by omega);omega
   have hw:IntKind.u64.wrap ((d:Int)*((nth j (n-2):Nat):Int))=(P:Int):=by
    rw[H,<-hP];exact IntWalk.u64_in _ ⟨by omega,by omega⟩
   replace hP:=qh hP;clear H;have f5:(1:Int)<(n:Int):=by omega
   by_cases h9:K<1000000000
   ·have d3:(K:Int)<1000000000:=by omega
    by_cases ht:K*1000000000+nth u (n-2)<P
    ·have a1:=HE.o.back hd.o (.inr ⟨b4,by rw[Ap,<-hP.o];exact ht⟩);have f8:(K:Int)*1000000000+((nth u (n-2):Nat):Int)<(P:Int):=by omega
     have b5:(1:Int)<=(d:Int):=by have:=a1.1;omega
     have F:=qh a1;clear a1 ht
     go_wp2_with fail
     go_quiet (fail)
     clear f8 hw h5;have i8:(d:Int)<=999999999:=by omega
     clear hA f3 h9 d3 f9 g1 g3 g5 b4 f5
     go_wp2_with fail
     ·have b0:(1000000000:Int)<=(K:Int)+((nth j (n-1):Nat):Int):=by assumption
      go_meet
      refine⟨d-1,K+nth j (n-1),by go_num,by go_num,by rw[Ap];omega,F.o.2.ge,F.o.2.done hd.o (by rw[Ap];omega) (.inr (.inl (by rw[Ap];omega))),E.o.kept (below_drewN (Below.refl _ wr) _) nlr,Do D.o _⟩
     go_roundw
     case rel=>exact⟨d-1,K+nth j (n-1),by go_num,by go_num,F.o.2,E.o.kept (below_drewN (Below.refl _ wr) _) nlr,Do D.o _⟩
     have:=F.o.1;simp[intOf];omega
    have f8:decide ((K:Int)*1000000000+((nth u (n-2):Nat):Int)<(P:Int))=false:=by simp;omega
    replace ht:=qh ht
    go_wp2_with fail
    go_quiet (fail)
    go_wp2_with fail
    go_meet
    exact⟨d,K,rfl,rfl,Y.o,HE.o.ge,HE.o.done hd.o Y.o (.inr (.inr ⟨b4,by have:=ht.o;rw[Ap,<-hP.o];omega⟩)),E.o.kept (below_drewN (Below.refl _ wr) _) nlr,Do D.o _⟩
   have d3:decide ((K:Int)<1000000000)=false:=by simp;omega
   go_wp2_with fail
   go_quiet (fail)
   go_wp2_with fail
   go_meet
   exact⟨d,K,rfl,rfl,Y.o,HE.o.ge,HE.o.done hd.o Y.o (.inr (.inl (by rw[Ap];omega))),E.o.kept (below_drewN (Below.refl _ wr) _) nlr,Do D.o _⟩
  have f5:decide ((1:Int)<(n:Int))=false:=by simp;omega
  clear d0 d1
  go_wp2_with fail
  go_quiet (fail)
  go_wp2_with fail
  go_meet
  exact⟨d,K,rfl,rfl,Y.o,HE.o.ge,HE.o.done hd.o Y.o (.inl (by omega)),E.o.kept (below_drewN (Below.refl _ wr) _) nlr,Do D.o _⟩
 case rest =>
  obtain⟨d,K,rfl,rfl,b5,b9,e4,o,m⟩:=hcut;have e5:(d:Int)<=999999999:=by rw[Ap]at b5;omega
  have h4:=qh b5;clear b5;replace b9:=qh b9;replace e4:=qh e4;have h3:=qh o;clear o;have g7:=qh m;clear m;clear e9 e7 g0 d5
  go_wp2_with fail
  go_loopw [9,10,88] (λb c i wr=>∃(k Q W:Nat) (z:List Nat),k<=n+1/\i=.int .i64 (k:Int)/\c=.int .u64 (Q:Int)/\b=.int .u64 (W:Int)/\SubIn u j z d k Q W/\(k=n+1->Q=0)/\
    Own wr B 196 .u64 (.slice (some (Ad g 0)) N cap) (A++z++C)/\w.grownBy wr (some g)) (λ_ _ i _=>n+1-(intOf i).toNat)
  case atStart=>exact⟨0,0,0,u,Nat.zero_le _,rfl,rfl,rfl,SubIn.start u j d hd.o.su,λ_=>rfl,h3.o,g7.o⟩
  obtain⟨k,Q,W,z,hk,rfl,rfl,rfl,I,b2,o,m⟩:=hrel;have s:=I.len;rw[p.o]at s;have a9:(A++z++C).length=N:=by rw[<-hN.o,List.length_append,List.length_append,List.length_append,List.length_append,s,p.o]
  have T:=qh s;clear s;have a5:=qh a9;clear a9;have e8:=qh b2;clear b2;have O:=qh I;clear I;have X:=qh o;clear o;have a4:=qh m;clear m;by_cases e3:k<n+1
  ·have h7:(Q:Int)<=999999999:=by have:=O.o.carry;rw[Ap]at this;omega
   have j0:(W:Int)<=1:=by have:=O.o.borrow;omega
   have i2:((nth u k:Nat):Int)<=999999999:=by have:=hd.o.su k;rw[Ap]at this;omega
   have uc:wr.cell? (Ad g (A.length+k))=some (.int .u64 ((nth u k:Nat):Int)):=by
    have h:=X.o.cell a5.o (A.length+k) (by rw[<-a5.o,List.length_append,List.length_append,T.o];omega)
    rwa [FX _ _ _ _ (by rw[T.o];omega),O.o.same k nlr]at h
   have uf:wr.frozen? (Ad g (A.length+k))=false:=X.o.free a5.o _;have J:=O.o.step hd.o.sv h4.o (by rw[p.o];exact e3);have Z:=qh J;clear J;by_cases d8:k<n
   ·have vc:wr.cell? (Ad bv (ov+k))=some (.int .u64 ((nth j k:Nat):Int)):=a4.o.cell (hv.o k d8) (by simpa using b8);have H:((d:Int)*((nth j k:Nat):Int))=((d*nth j k:Nat):Int):=by simp
    have i6:(d:Int)*((nth j k:Nat):Int)<=999999998000000001:=by
     have h2:=hd.o.sv k;rw[Ap]at h2;have:d*nth j k<=999999999*999999999:=Nat.mul_le_mul (by omega) (by omega);rw[H];omega
    have i7:0<=(d:Int)*((nth j k:Nat):Int):=by rw[H];omega
    have g9:=qh H;clear H;go_wp2;go_roundw
    case rel =>
     have h8:dSub (nth u k) Q W (d*nth j k)<=1999999999:=by unfold dSub;omega
     rw[g9.o,Mn O.o.borrow];have l:=X.o.set a5.o (A.length+k) (dSub (nth u k) Q W (d*nth j k) % 1000000000);rw[set_mid _ _ _ _ _ (by rw[T.o];exact e3)]at l;exact⟨k+1,_,_,_,by omega,by go_num,by go_num,by go_num,Z.o,λh=>by omega,l,EX a4.o _ _⟩
    simp[intOf];omega
   have G:k=n:=by omega
   have b6:nth j k=0:=AP j k (by have:=hd.o.lv;omega);have d9:(Q+d*nth j k) / 1000000000=0:=by
    have h:=O.o;rw[G]at h ⊢;exact h.last hd.o.lv
   have g8:=qh G;clear G;have f1:=qh b6;clear b6;replace d9:=qh d9;go_wp2;go_roundw
   case rel =>
    have e0:(Q:Int)=(Q:Int)+((d*nth j k:Nat):Int):=by rw[f1.o];simp
    have e1:(Q:Int) / 1000000000=((Q+d*nth j k) / 1000000000:Nat):=by rw[f1.o,Nat.mul_zero];omega
    have e2:((nth u k:Nat):Int)+1000000000-(Q:Int) % 1000000000-(W:Int)=((dSub (nth u k) Q W (d*nth j k):Nat):Int):=by
     rw[<-Mn O.o.borrow,<-e0]
    have h8:dSub (nth u k) Q W (d*nth j k)<=1999999999:=by unfold dSub;omega
    rw[e1,e2];have l:=X.o.set a5.o (A.length+k) (dSub (nth u k) Q W (d*nth j k) % 1000000000);rw[set_mid _ _ _ _ _ (by rw[T.o];exact e3)]at l;exact⟨k+1,_,_,_,by omega,by go_num,rfl,by go_num,Z.o,λ_=>d9.o,l,EX a4.o _ _⟩
   simp[intOf];omega
  have G:k=n+1:=by omega
  have f4:=e8.o G;have I:=O.o;rw[G,f4]at I;have R:=qh I;clear I;clear O e8 G f4
  rcases Nat.eq_zero_or_pos W with h0|h0
  ·have h6:(((W:Nat):Int)==0)=true:=by rw[beq_iff_eq];omega
   have L:d=bval u / bval j/\bval z=bval u % bval j:=by
    have h:=R.o;rw[h0]at h;exact h.fits hd.o b9.o
   have HF:=qh L;clear L;have g6:=qh h0;clear h0;go_wp2;go_ret;exact⟨z,BR (by rw[<-HF.o.1]),by rw[T.o,p.o],R.o.small,HF.o.2,X.o,a4.o⟩
  have h6:(((W:Nat):Int)==0)=false:=by rw[beq_eq_false_iff_ne];omega
  have b0:W=1:=by have:=R.o.borrow;omega
  have I:=R.o;rw[b0]at I;have d6:=qh I;clear I R;have g6:=qh b0;clear b0 h0;obtain⟨wo,rfl⟩:∃wo:World,wo=wr:=⟨_,rfl⟩
  go_wp2_with fail
  go_loopw [10,129] (λc i wr=>∃(k Q:Nat) (S:List Nat),k<=n+1/\i=.int .i64 (k:Int)/\c=.int .u64 (Q:Int)/\AddIn z j S k Q/\
   Own wr B 196 .u64 (.slice (some (Ad g 0)) N cap) (A++S++C)/\w.grownBy wr (some g)) (λ_ i _=>n+1-(intOf i).toNat)
  case atStart=>exact⟨0,0,z,Nat.zero_le _,rfl,rfl,AddIn.start z j d6.o.small,X.o,a4.o⟩
  obtain⟨k2,d7,S,j1,rfl,rfl,U,o,m⟩:=hrel;have s:=U.len;rw[T.o]at s;have a9:(A++S++C).length=N:=by rw[<-hN.o,List.length_append,List.length_append,List.length_append,List.length_append,s,p.o]
  have a8:=qh s;clear s;have a6:=qh a9;clear a9;have a2:=qh U;clear U;have a7:=qh o;clear o;have b7:=qh m;clear m;by_cases b3:k2<n+1
  ·have h7:(d7:Int)<=1:=by have:=a2.o.carry;omega
   have i2:((nth z k2:Nat):Int)<=999999999:=by have:=d6.o.small k2;rw[Ap]at this;omega
   have g2:((nth j k2:Nat):Int)<=999999999:=by have:=hd.o.sv k2;rw[Ap]at this;omega
   have uc:wr.cell? (Ad g (A.length+k2))=some (.int .u64 ((nth z k2:Nat):Int)):=by
    have h:=a7.o.cell a6.o (A.length+k2) (by rw[<-a6.o,List.length_append,List.length_append,a8.o];omega)
    rwa [FX _ _ _ _ (by rw[a8.o];omega),a2.o.same k2 nlr]at h
   have uf:wr.frozen? (Ad g (A.length+k2))=false:=a7.o.free a6.o _;have J:=a2.o.step hd.o.sv (by rw[T.o];exact b3);have Z:=qh J;clear J;by_cases d8:k2<n
   ·have vc:wr.cell? (Ad bv (ov+k2))=some (.int .u64 ((nth j k2:Nat):Int)):=b7.o.cell (hv.o k2 d8) (by simpa using b8);go_wp2;go_roundw
    case rel =>
     have l:=a7.o.set a6.o (A.length+k2) ((nth z k2+d7+nth j k2) % 1000000000);rw[set_mid _ _ _ _ _ (by rw[a8.o];exact b3)]at l;exact⟨k2+1,_,_,by omega,by go_num,by go_num,Z.o,l,EX b7.o _ _⟩
    simp[intOf];omega
   have b6:nth j k2=0:=AP j k2 (by have:=hd.o.lv;omega);have e6:=Z.o;rw[b6,Nat.add_zero]at e6;have f0:=qh e6;clear e6 Z b6 g2;go_wp2;go_roundw
   case rel =>
    have l:=a7.o.set a6.o (A.length+k2) ((nth z k2+d7) % 1000000000);rw[set_mid _ _ _ _ _ (by rw[a8.o];exact b3)]at l;exact⟨k2+1,_,_,by omega,by go_num,by go_num,f0.o,l,EX b7.o _ _⟩
   simp[intOf];omega
  have G:k2=n+1:=by omega
  have U:=a2.o;rw[G]at U;have L:=U.fits hd.o d6.o b9.o e4.o;have b5:(1:Int)<=(d:Int):=by have:=L.1;omega
  have HF:=qh L;clear L U;have g8:=qh G;clear G;go_wp2;go_ret;exact⟨S,BR (by rw[<-HF.o.2.1];omega),by rw[a8.o,p.o],a2.o.small,HF.o.2.2,a7.o,b7.o⟩
variable{L L0:List Nat}{a k m:Nat}
def GR(xs:List Nat)(a:Nat)(h:a<xs.length):bval (xs.drop a)=nth xs a+BB*bval (xs.drop (a+1)):=by
 rw[List.drop_eq_getElem_cons h];simp only[bval];rw[CZ xs a h]
theorem Pj{xs:List Nat}(h:Small xs)(k:Nat):Small (xs.drop k):=λi=>by rw[FW];exact h _
def NK(h:L.take k=L0.take k)(c:a<k):nth L a=nth L0 a:=by
 rw[<-Fg L k a c,h,Fg _ _ _ c]
structure DvInv(L0 vs L qs:List Nat)(n a:Nat):Prop where
 len:L.length=L0.length
 ql:qs.length+n=L0.length
 ale:a<=qs.length
 small:Small L
 sq:Small qs
 low:L.take a=L0.take a
 rem:bval (L.drop a)<bval vs
 val:bval (L0.drop a)=bval (qs.drop a)*bval vs+bval (L.drop a)
structure Div0(L0 vs:List Nat)(n:Nat):Prop where
 s0:Small L0
 sv:Small vs
 n1:1<=n
 lv:vs.length=n
 v1:1<=nth vs (n-1)
theorem DvInv.start(h:Div0 L0 c n)(hn:n<=L0.length)(d:bval (L0.drop (L0.length-n))<bval c):
  DvInv L0 c L0 (List.replicate (L0.length-n) 0) n (L0.length-n):=by
 refine⟨rfl,by simp;omega,by simp,h.s0,Pk _,rfl,d,?_⟩;have e:(List.replicate (L0.length-n) 0).drop (L0.length-n)=[]:=List.drop_of_length_le (by simp);rw[e];simp[bval]
theorem DvInv.cut(L:List Nat)(n a:Nat):L=L.take a++(L.drop a).take (n+1)++L.drop (a+(n+1)):=by
 rw[List.append_assoc,show L.drop (a+(n+1))=(L.drop a).drop (n+1) by rw[List.drop_drop],List.take_append_drop,List.take_append_drop]
theorem DvInv.seg_len(h:DvInv L0 d L c n (a+1)):((L.drop a).take (n+1)).length=n+1/\(L.take a).length=a:=by
 have:=h.len;have:=h.ql;have:=h.ale;rw[List.length_take,List.length_drop,List.length_take];omega
theorem DvInv.top(h:DvInv L0 c L g n (a+1)):bval (L.drop a)<bval c*BB:=by
 have:=h.len;have:=h.ql;have:=h.ale;rw[GR L a (by omega)];have i:=h.small a;have d:BB*(bval (L.drop (a+1))+1)<=BB*bval c:=Nat.mul_le_mul_left _ h.rem;rw[Nat.mul_add,Nat.mul_comm BB (bval c)]at d;omega
def DvInv.high{k:List Nat}(i:Div0 L0 g n)(h:DvInv L0 g L k n (a+1)):bval (L.drop a)=bval ((L.drop a).take (n+1))/\bval (L.drop (a+(n+1)))=0:=by
 have d:=EK ((L.drop a).take (n+1)) ((L.drop a).drop (n+1));rw[List.take_append_drop,List.drop_drop,h.seg_len.1]at d;have m:=h.top;have j:=Ca i.sv;rw[i.lv]at j;have l:bval g*BB<BB ^ (n+1):=by rw[Nat.pow_succ];exact Nat.mul_lt_mul_of_pos_right j AL
 rcases Nat.eq_zero_or_pos (bval (L.drop (a+(n+1)))) with c|c
 ·rw[c,Nat.mul_zero,Nat.add_zero]at d;exact⟨d,c⟩
 have:BB ^ (n+1)*1<=BB ^ (n+1)*bval (L.drop (a+(n+1))):=Nat.mul_le_mul_left _ c;omega
def DvInv.divIn(c:Div0 L0 d n)(h:DvInv L0 d L g n (a+1)):DivIn ((L.drop a).take (n+1)) d n :=
 ⟨Ez (Pj h.small a) _,c.sv,c.n1,h.seg_len.1,c.lv,c.v1,by rw[<-(h.high c).1];exact h.top⟩
def DvInv.step{k:List Nat}(m:Div0 L0 d n)(h:DvInv L0 d L k n (a+1))(B:c.length=n+1)(D:Small c)
  (z:bval c=bval ((L.drop a).take (n+1)) % bval d) :
  DvInv L0 d (L.take a++c++L.drop (a+(n+1))) (k.set a (bval ((L.drop a).take (n+1)) / bval d)) n a:=by
 have hd:=h.divIn m;have u:=h.high m;have j:=h.seg_len;have E:=h.len;have F:=h.ql;have G:=h.ale;have g:(L.take a++c++L.drop (a+(n+1))).drop a=c++L.drop (a+(n+1)):=by
  rw[List.append_assoc];have:=List.drop_left (l₁:=L.take a) (l₂:=c++L.drop (a+(n+1)))
  rwa [j.2]at this
 have A:bval ((L.take a++c++L.drop (a+(n+1))).drop a)=bval c:=by rw[g,EK,u.2];simp
 have C:(k.set a (bval ((L.drop a).take (n+1)) / bval d)).drop a=(bval ((L.drop a).take (n+1)) / bval d)::k.drop (a+1):=by
  rw[List.drop_eq_getElem_cons (by simp;omega),List.drop_set,ifp (by omega)];simp
 refine⟨by simp[B];omega,by simp;omega,by simp;omega,?_,Gt h.sq _ _ hd.qlt,?_,?_,?_⟩
 ·intro i;by_cases o:i<a
  ·rw[List.append_assoc,FU _ _ _ (by omega)];exact Ez h.small a i
  rw[List.append_assoc,FV _ _ _ (by omega)];by_cases p:i-(L.take a).length<c.length
  ·rw[FU _ _ _ p];exact D _
  rw[FV _ _ _ (by omega)];exact Pj h.small _ _
 ·have e:(L.take a++c++L.drop (a+(n+1))).take a=L.take a:=by
   rw[List.append_assoc];have:=List.take_left (l₁:=L.take a) (l₂:=c++L.drop (a+(n+1)))
   rwa [j.2]at this
  rw[e];have:=congrArg (List.take a) h.low;rw[List.take_take,List.take_take,Nat.min_eq_left (by omega)]at this;exact this
 ·rw[A,z];exact Nat.mod_lt _ hd.vpos'
 rw[A,C,GR L0 a (by omega),h.val];simp only[bval];have o:=GR L a (by omega);rw[u.1]at o;have p:nth L a=nth L0 a:=NK h.low (by omega);have s:=Nat.div_add_mod (bval ((L.drop a).take (n+1))) (bval d);rw[<-z]at s;generalize bval ((L.drop a).take (n+1)) / bval d=qd at *;generalize bval ((L.drop a).take (n+1))=U at *;rw[Nat.mul_comm (bval d) qd]at s;rw[Nat.add_mul,Nat.mul_add,<-Nat.mul_assoc];omega
def DvInv.done{i:List Nat}(h:DvInv L0 d L i n 0):bval i=bval L0 / bval d/\bval L=bval L0 % bval d:=by
 have g:=h.val;have c:=h.rem;simp only[List.drop_zero]at g c;rw[g,Nat.add_comm,Nat.mul_comm];exact⟨by rw[Nat.add_mul_div_left _ _ (by omega),Nat.div_eq_of_lt c,Nat.zero_add],by rw[Nat.add_mul_mod_self_left,Nat.mod_eq_of_lt c]⟩
structure DnInv(r0 L:List Nat)(k a lf:Nat):Prop where
 len:L.length=r0.length
 ale:a<=r0.length
 small:Small L
 left:lf<k
 low:L.take a=r0.take a
 val:bval (r0.drop a)=k*bval (L.drop a)+lf
theorem DnInv.start(d:1<=k)(g:Small c):DnInv c c k c.length 0 :=
 ⟨rfl,nlr,g,d,rfl,by rw[List.drop_length];simp[bval]⟩
def DnInv.bound{c:Nat}(h:DnInv d L k (a+1) c)(j:Small d):c*1000000000+nth d a<k*1000000000:=by
 have g:=j a;have i:=h.left;rw[Ap]at g;have:(c+1)*1000000000<=k*1000000000:=Nat.mul_le_mul_right _ i;omega
def DnInv.step{d:Nat}(h:DnInv c L k (a+1) d)(g:1<=k)(l:Small c):
  DnInv c (L.set a ((d*1000000000+nth c a) / k)) k a ((d*1000000000+nth c a) % k):=by
 have hb:=h.bound l;have i:=h.len;have o:=h.ale;have m:(d*1000000000+nth c a) / k<BB:=by
  rw[Ap];exact Nat.div_lt_of_lt_mul hb
 refine⟨by simp;exact i,by omega,Gt h.small _ _ m,Nat.mod_lt _ g,?_,?_⟩
 ·rw[take_set];have:=congrArg (List.take a) h.low;rw[List.take_take,List.take_take,Nat.min_eq_left (by omega)]at this;exact this
 have j:(L.set a ((d*1000000000+nth c a) / k)).drop a=((d*1000000000+nth c a) / k)::L.drop (a+1):=by
  rw[List.drop_eq_getElem_cons (by simp;omega),List.drop_set,ifp (by omega)];simp
 rw[j,GR c a (by omega),h.val];simp only[bval];have p:=Nat.div_add_mod (d*1000000000+nth c a) k;generalize (d*1000000000+nth c a) / k=qd at *;rw[Nat.mul_add,Nat.mul_add,Nat.mul_left_comm BB k];have:BB*d=d*1000000000:=by rw[Ap,Nat.mul_comm]
 omega
def DnInv.done{g:Nat}(h:DnInv d L k 0 g):bval L=bval d / k:=by
 have c:=h.val;simp only[List.drop_zero]at c;rw[c,Nat.add_comm,Nat.add_mul_div_left _ _ (Nat.lt_of_le_of_lt nzl h.left),Nat.div_eq_of_lt h.left,Nat.zero_add]
theorem To{d:Nat}(hd:d≠0)(i:k=1000000000 / (nth (toB d) ((toB d).length-1)+1)):
  1<=k/\k<BB/\(toB (d*k)).length=(toB d).length:=by
 have j:=Eg hd;have p:=AW d ((toB d).length-1);have s:=IC hd;have l:=GT (xs:=toB d) rfl j;rw[AX]at l;have u:=Gw (AW d) ((toB d).length-1) (by omega);generalize hx:nth (toB d) ((toB d).length-1)=x at *;have c:1<=k:=by rw[i,Nat.le_div_iff_mul_le (by omega)];rw[Ap]at p;omega
 have h:k*(x+1)<=BB:=by rw[i,Ap];exact Nat.div_mul_le_self _ _
 have g:k<BB:=by
  have:k*2<=k*(x+1):=Nat.mul_le_mul_left _ (by omega);omega
 refine⟨c,g,?_⟩
 apply Nat.le_antisymm
 ·apply GA
  have m:d<BB ^ ((toB d).length-1)*(x+1):=by rw[Nat.mul_add];omega
  have z:d*k<BB ^ ((toB d).length-1)*(x+1)*k:=Nat.mul_lt_mul_of_pos_right m c;have o:BB ^ ((toB d).length-1)*((x+1)*k)<=BB ^ ((toB d).length-1)*BB:=Nat.mul_le_mul_left _ (by rw[Nat.mul_comm];exact h);rw[<-Nat.mul_assoc,<-Of j]at o;omega
 exact Ef (by
             have:d*1<=d*k:=Nat.mul_le_mul_left _ c;omega)
def Vl(g:k<BB)(c:1<=k):(toB m).length<=(toB (m*k)).length/\(toB (m*k)).length<=(toB m).length+1:=by
 refine⟨Ef (by
              have:m*1<=m*k:=Nat.mul_le_mul_left _ c;omega),GA ?_⟩
 have d:=Ca<|AW m;rw[AX]at d;rw[Nat.pow_succ];exact Nat.mul_lt_mul_of_lt_of_le d (by omega) AL
theorem LZ(xs:List Nat):bval (xs++[0])=bval xs:=by rw[EL];simp
def Ry(xs:List Nat)(j:Nat)(h:Small xs):bval (xs.drop j)=bval xs / BB ^ j:=by
 by_cases c:j<=xs.length
 ·have:=EK (xs.take j) (xs.drop j);rw[List.take_append_drop,List.length_take,Nat.min_eq_left c]at this;rw[this,Nat.add_mul_div_left _ _ (Nat.pow_pos AL),Nat.div_eq_of_lt (Gw h j c),Nat.zero_add]
 rw[List.drop_of_length_le (by omega),Nat.div_eq_of_lt]
 ·rfl
 exact Nat.lt_of_lt_of_le (Ca h) (Nat.pow_le_pow_right AL (by omega))
def Tu{d:Nat}(hd:d≠0)(c:1<=k)(l:(toB d).length<=(toB m).length)(o:Small L0)(p:bval L0=m*k)(j:L0.length=(toB m).length+1):
  bval (L0.drop (L0.length-(toB d).length))<d*k:=by
 rw[Ry _ _ o,p,j,Nat.div_lt_iff_lt_mul (Nat.pow_pos AL)];have h:=Ca<|AW m;rw[AX]at h;have i:=XT hd;have u:=Eg hd;have e:BB ^ (toB m).length=BB ^ ((toB d).length-1)*BB ^ ((toB m).length+1-(toB d).length):=by rw[<-Nat.pow_add];congr 1;omega
 have s:BB ^ ((toB d).length-1)*BB ^ ((toB m).length+1-(toB d).length)<=d*BB ^ ((toB m).length+1-(toB d).length):=Nat.mul_le_mul_right _ i;have g:m*k<d*BB ^ ((toB m).length+1-(toB d).length)*k:=Nat.mul_lt_mul_of_pos_right (by omega) c;rw[Nat.mul_right_comm]at g;exact g
variable{B:Nat}{e:TypeId}{k:IntKind}
def DivEnd(m d:Nat)(w:World)(e:Ending)(w':World):Prop :=
 ∃vq vr,e=.returned (.tuple #[vq,vr])/\Sl w' .u64 vq (toB (m / d))/\Sl w' .u64 vr (toB (m % d))/\Below w.heap.size w w'
def Own.keptBy{w':World}{g n cap:Nat}{row:Option Nat}(h:Own w B e k (.slice (some (Ad g 0)) n cap) L)(d:w.grownBy w' row)(c:some g≠row):Own w' B e k (.slice (some (Ad g 0)) n cap) L :=
 World.ownsRow.kept h d (.inr (by simpa [Value.ownBlock] using c))
theorem Own.some{v:Value}(h:Own w B e k v L)(hn:1<=L.length):∃g cap,v=.slice (.some (Ad g 0)) L.length cap/\B<=g/\g<w.heap.size/\L.length<=cap/\cap<=maxLen:=by
 rcases h.2 with⟨_,m⟩|⟨g,cap,cur,l,c,j,d,i,_⟩
 ·omega
 exact⟨g,cap,l,c,(Array.getElem?_eq_some_iff.1 j).1,d,i⟩
def SJ(i j:Value)(m d:Nat)(w:World)(h:Sl w .u64 i (toB m))(l:Sl w .u64 j (toB d))(g:m<d):
  Calls prog 222 #[i,j] w (DivEnd m d w):=by
 have c:=FE i j m d w h l;unfold CmpEnd at c;rw[Cq g]at c;replace c:=qh c;replace h:=qh h;clear l;replace g:=qh g
 go_enter func222,ntmps222
 go_wp2_with fail
 refine nxa c.o λo k=>?_;go_wp2;go_ret2;refine⟨_,_,rfl,?_,?_,k.o⟩
 ·rw[Nat.div_eq_of_lt g.o];exact Sl.nil _ _
 rw[Nat.mod_eq_of_lt g.o];exact h.o.below k.o nlr
set_option maxRecDepth 100000 in
theorem SI(vx vy:Value)(m d:Nat)(w:World)(hx:Sl w .u64 vx (toB m))(hy:Sl w .u64 vy (toB d))(hd:d≠0)(r2:d<=m)(lx:(toB m).length<=50000):
  Calls prog 222 #[vx,vy] w (DivEnd m d w):=by
 have d6:=FE vx vy m d w hx hy;unfold CmpEnd at d6;have q8:∃q:Int,cmpN m d=q/\0<=q:=by
  rcases Nat.lt_or_ge d m with h|h
  ·exact⟨1,CV h,by omega⟩
  exact⟨0,DT (by omega),by omega⟩
 obtain⟨q0,hq,w4⟩:=q8;rw[hq]at d6;clear hq;have g4:=To hd rfl;obtain⟨k,hk⟩:∃k,k=1000000000 / (nth (toB d) ((toB d).length-1)+1):=⟨_,rfl⟩;rw[<-hk]at g4;obtain⟨b0,W,b7⟩:=g4;have d8:=Eg hd;have i6:(toB d).length<=(toB m).length:=Ef r2;have e3:=Vl (m:=m) W b0;have g9:=AW d ((toB d).length-1);rw[Ap]at g9;obtain⟨ax,cx,rfl⟩:=hx.shape;replace hx:=qh hx;have HY:=qh hy;obtain⟨ay,cy,p7,oy,rfl,q7,s4,k7,k0,a1⟩:=hy.open;obtain rfl:=q7 d8;have k4:=k0 d8;have j6:=a1 ((toB d).length-1) (by omega);have g6:(((toB d).length:Int)-1)<((toB d).length:Int):=by omega
 have l5:0<=(((toB d).length:Int)-1):=by omega
 unfold maxLen at k7;replace d6:=qh d6;replace hk:=qh hk;replace b7:=qh b7;replace W:=qh W;replace hd:=qh hd;clear k0 a1 hy
 go_enter func222,ntmps222
 go_wp2_with fail
 refine d6.o.mono ?_;rintro e w1⟨rfl,T⟩;have j7:=(T.cell (p:=(Ad p7 (oy+((toB d).length-1)))) k4).trans j6;replace T:=qh T;have m7:=T.o.size;clear j6
 go_wp2_with fail
 have ek:(1000000000:Int) / (((nth (toB d) ((toB d).length-1):Nat):Int)+1)=(k:Int):=by rw[hk.o];simp
 rw[ek];clear ek;refine(OZ _ m k w1 W.o (hx.o.below T.o nlr) (by omega)).mono ?_;rintro e w2⟨vu,rfl,Q,d3⟩;have HU:=qh Q;clear Q;replace d3:=qh d3;have w9:=d3.o.size
 go_wp2_with fail
 refine(OZ _ d k w2 W.o ((HY.o.below T.o nlr).below d3.o nlr) (by omega)).mono ?_;rintro e w3⟨vv,rfl,N,d4⟩;replace d4:=qh d4;have x0:=d4.o.size;have i8:=(HU.o.kept d4.o nlr).mono m7;obtain⟨gv,cv,rfl,s9,t7,g3,k6⟩:=N.some (by rw[b7.o];exact d8);have a6:=N.mono (show w.heap.size<=w2.heap.size by omega);rw[b7.o]at g3;rw[b7.o];obtain⟨gu,cu,r7,s7,s8,s3,k5⟩:=HU.o.some (by omega);obtain rfl:=r7;replace a6:=qh a6;clear N;replace i8:=qh i8;have o8:Hd (gu≠gv):=qh (by omega);have n7:=qh<|T.o.trans ((d3.o.mono m7).trans (d4.o.mono (by omega)));obtain⟨i0,i9,m8,j0,m9⟩:=info_parts FM;obtain⟨vs,O⟩:=exq<|toB (d*k);rw[<-O]at a6;replace O:=qh O;obtain⟨n,hn⟩:∃n,n=(toB d).length:=⟨_,rfl⟩;rw[<-hn]at d8 i6 g9 g6 l5 g3;have HN:=qh hn;have f2:Hd (vs.length=n):=qh (by rw[O.o,b7.o];exact hn.symm);rw[<-hn];clear hn j7 g6 l5;obtain⟨b8,b1⟩:∃l,l=(toB m).length:=⟨_,rfl⟩;rw[<-b1]at lx i6 e3;rw[<-b1];replace b1:=qh b1;unfold maxLen at k6 k5
 go_wp2_with fail
 go_loopw [8] (λv wr=>∃(g o:Nat) (L:List Nat),v=.slice (some (Ad g 0)) L.length o/\Own wr w.heap.size 196 .u64 (.slice (some (Ad g 0)) L.length o) L/\g≠gv/\Small L/\bval L=m*k/\b8<=L.length/\L.length<=b8+1/\
   Own wr w.heap.size 196 .u64 (.slice (some (Ad gv 0)) n cv) vs/\Below w.heap.size w wr) (λv _=>b8+1-lenV v)
 case atStart =>
  refine⟨gu,cu,toB (m*k),rfl,i8.o,o8.o,AW _,AX _,e3.1,e3.2,?_,n7.o⟩;have:=a6.o
  rwa [f2.o]at this
 obtain⟨g,o,L,rfl,Q,b2,b4,U,v9,w0,N,P⟩:=hrel;have HO:=qh Q;clear Q;replace b2:=qh b2;replace b4:=qh b4;replace U:=qh U;have d2:=qh N;clear N;have b9:=qh P;clear P;by_cases r3:L.length<=b8
 ·have e9:=b9.o.size;have f7:wr.ownsRow w.heap.size 196 1 (.slice (some (Ad g 0)) L.length o) L.length (vals .u64 L):=HO.o;replace f7:=qh f7
  rcases Nat.lt_or_ge o (L.length+1) with d5|d5
  ·go_wp2_with (at_builtin;refine wpList_append_grows _ rfl (.tmp 40) (.tmp 41) 210 rfl 196 i0 (.int .u64 0) 1 8 underlying210 i9 m8 j0 m9 rfl (by decide) (some (Ad g 0)) L.length o (vals .u64 L) rfl (by intro h;cases h) (by rw[Qh];omega) (λb hb=>by cases hb;exact World.ownsRow.cells (World.ownsRow.alloc f7.o _) rfl) (Ad wr.heap.size 0) 1 1 [.int .u64 0] rfl rfl (cell_one_new _ _ _) (one_cell _ _) d5 (by unfold maxLen;omega) (by omega) ?_;intro v5 w5 C u)
   have b3:Own w5 (wr.heap.size+1) 196 .u64 v5 (L++[0]):=by
    unfold Own;rw[<-Ll,List.length_append];have e:(wr.alloc (.cells #[.int .u64 0] 196)).heap.size=wr.heap.size+1:=by simp
    rw[e]at C;exact C
   obtain⟨g5,j5,rfl,s5,s6,_,_⟩:=b3.some (by simp);have a9:Below wr.heap.size wr w5:=((Below.refl _ wr).alloc nlr _).grown u (by simp) (by simp);have e8:=d2.o.kept a9 nlr;have v6:=d2.o.base.2;have H5:=qh (b3.mono (show w.heap.size<=wr.heap.size+1 by omega));clear b3 C u;have h7:=qh e8;clear e8;have h0:=qh a9;clear a9;have j3:Hd (g5≠gv):=qh (by omega);go_wp2;go_roundw
   case rel=>exact⟨g5,j5,L++[0],rfl,H5.o,j3.o,Ir b4.o AL,by rw[LZ];exact U.o,by simp;omega,by simp;omega,h7.o,b9.o.trans (h0.o.mono e9)⟩
   simp[MU];omega
  go_wp2_with (at_builtin;refine wpList_append_fits _ rfl (.tmp 40) (.tmp 41) 210 rfl w.heap.size 196 i0 1 underlying210 i9 j0 g L.length o (vals .u64 L) rfl (World.ownsRow.alloc f7.o _) (Ad wr.heap.size 0) 1 1 [.int .u64 0] rfl rfl (cell_one_new _ _ _) (one_cell _ _) d5 ?_;intro w5 C u)
  have b3:Own w5 w.heap.size 196 .u64 (.slice (some (Ad g 0)) (L.length+1) o) (L++[0]):=by
   unfold Own;rw[<-Ll,List.length_append];exact C
  have i4:=HO.o.base.1;have a9:Below w.heap.size w w5:=(b9.o.alloc e9 _).grown u (by simp;omega) (λq hq=>by cases hq;exact i4);have e8:Own w5 w.heap.size 196 .u64 (.slice (some (Ad gv 0)) n cv) vs :=
   Own.keptBy (d2.o.kept ((Below.refl wr.heap.size wr).alloc nlr (.cells #[.int .u64 0] 196)) nlr) u (by have:=b2.o;simp;omega)
  have H5:=qh b3;clear b3 C u;have h7:=qh e8;clear e8;have h0:=qh a9;clear a9;go_wp2;go_roundw
  case rel=>exact⟨g,o,L++[0],by simp,by rw[List.length_append];exact H5.o,b2.o,Ir b4.o AL,by rw[LZ];exact U.o,by simp;omega,by simp;omega,h7.o,h0.o⟩
  simp[MU];omega
 have h8:L.length=b8+1:=by omega
 have e9:=b9.o.size;have l0:=HO.o.base;have l1:=d2.o.base;obtain⟨s,f5⟩:=exq<|L.length-n;obtain⟨wm,i5,a7,l3⟩:=run_make_full wr w.heap.size 210 196 i0 (.int .u64 0) 1 underlying210 i9 m8 j0 .i64 .i64 (L.length-n) (by rw[m9];omega) (by unfold maxLen;omega) e9;rw[show ((L.length-n:Nat):Int)=(L.length:Int)-(n:Int) by omega,<-f5]at i5;rw[<-f5]at a7;obtain⟨gq,k9⟩:=exq<|wr.heap.size;rw[<-k9]at i5 a7;have f3:Below wr.heap.size wr wm:=blr.grown l3 nlr (by simp);have h9:Own wm w.heap.size 196 .u64 (.slice (some (Ad gq 0)) s s) (List.replicate s 0):=by
  unfold Own;rw[Lk,List.length_replicate];have:=a7;rw[Nat.mul_one,show (Value.int .u64 0).cells=#[Value.int .u64 0] from rfl,toList_madeCells_one]at this;exact this
 have d7:Div0 L vs n:=⟨b4.o,by rw[O.o];exact AW _,d8,f2.o,by
  have h:=IC (n:=d*k) (by have:=hd.o;exact Nat.mul_ne_zero this (by omega));rw[<-O.o,f2.o]at h;omega⟩
 have i3:bval (L.drop (L.length-n))<bval vs:=by
  have h:=Tu (m:=m) hd.o b0 (L0:=L) (by rw[<-HN.o,<-b1.o];exact i6) b4.o U.o (by rw[<-b1.o];exact h8);rw[<-HN.o]at h;rw[O.o,AX];exact h
 have i7:DvInv L vs L (List.replicate s 0) n s:=by
  have h:=DvInv.start d7 (by omega) i3
  rwa [<-f5]at h
 have v0:s+n=b8+1:=by omega
 replace i7:=qh i7;clear i3;replace d7:=qh d7;replace h9:=qh h9;clear a7;have o9:=qh<|HO.o.kept f3 nlr;have p6:=qh<|d2.o.kept f3 nlr;have n9:=qh<|b9.o.trans (f3.mono e9);have f0:Hd (gq≠g/\gq≠gv):=qh ⟨by omega,by omega⟩;have v4:=qh h8;have i2:L.length<=o/\o<=maxLen:=by
  obtain⟨g',r9,h1,_,_,h2,h3⟩:=HO.o.some (by omega);simp only[Value.slice.injEq,true_and]at h1;obtain⟨_,rfl⟩:=h1;exact⟨h2,h3⟩
 obtain⟨n5,f4⟩:=i2;unfold maxLen at f4;clear f3 l3 f5 k9 h8 l0 l1
 go_wp2_with fail
 clear i5
 go_loopw [50] (λi wq=>∃(j:Nat) (Lc qs:List Nat),j<=s/\i=.int .i64 (j:Int)/\DvInv L vs Lc qs n (s-j)/\Own wq w.heap.size 196 .u64 (.slice (some (Ad g 0)) L.length o) Lc/\
   Own wq w.heap.size 196 .u64 (.slice (some (Ad gv 0)) n cv) vs/\Own wq w.heap.size 196 .u64 (.slice (some (Ad gq 0)) s s) qs/\Below w.heap.size w wq) (λi _=>s-(intOf i).toNat)
 case atStart=>exact⟨0,L,_,Nat.zero_le _,rfl,i7.o,o9.o,p6.o,h9.o,n9.o⟩
 obtain⟨j,Lc,qs,hj,rfl,z,Q,N,e1,P⟩:=hrel;have h5:=qh z;clear z;have f1:=qh Q;clear Q;have j4:=qh N;clear N;have h6:=qh e1;clear e1;have h4:=qh P;clear P;by_cases r3:j<s
 ·obtain⟨a,ha⟩:=exq<|s-1-j;have z:=h5.o;rw[show s-j=a+1 by omega]at z;have g8:=z.seg_len;have G:=z.len;have r5:=z.ql;have hcut:=DvInv.cut Lc n a;have a2:=SC w.heap.size g L.length o (o-a) gv 0 cv n (Lc.take a) ((Lc.drop a).take (n+1)) (Lc.drop (a+(n+1))) vs wr (by rw[<-hcut];exact G) (by rw[<-hcut];exact f1.o) (z.divIn d7.o) (by omega) b2.o.symm
   (λi hi=>by rw[Nat.zero_add];exact j4.o.cell f2.o i hi)
  rw[g8.2]at a2;replace a2:=qh a2;clear hcut;have F:=qh z;clear z g8 G r5;subst ha;have l4:s-1-j<s:=by omega
  go_wp2_with fail
  rw[show s-1-j+n+1-(s-1-j)=n+1 by omega];refine a2.o.mono ?_;rintro e w6⟨x1,rfl,l9,m3,m2,g7,a5⟩;have e7:=F.o.step d7.o (by rw[l9];exact F.o.seg_len.1) m3 m2;have f8:=h6.o.keptBy a5 (by have:=f0.o.1;simp;omega);have m4:=j4.o.keptBy a5 (by have:=b2.o;simp;omega);have i4:=f1.o.base.1;have l2:=h6.o.base.1;have j8:Below w.heap.size w w6:=h4.o.grown a5 (h4.o.size) (λq hq=>by cases hq;exact i4);have B:qs.length=s:=by have h1:=F.o.ql;omega
  have cq:=f8.cell B (s-1-j) l4;have fq:=f8.free B (s-1-j);have l6:=f8.set B (s-1-j) (bval ((Lc.drop (s-1-j)).take (n+1)) / bval vs);have d9:w6.grownBy (w6.setCell (Ad gq (s-1-j)) (.int .u64 ((bval ((Lc.drop (s-1-j)).take (n+1)) / bval vs:Nat):Int))) (some gq):=EX (JB _ _) _ _;have l8:=g7.keptBy d9 (by have:=f0.o.1;simp;omega);have m5:=m4.keptBy d9 (by have:=f0.o.2;simp;omega);have j9:=j8.setCell (p:=(Ad gq (s-1-j))) l2 (.int .u64 ((bval ((Lc.drop (s-1-j)).take (n+1)) / bval vs:Nat):Int));have o4:=qh e7;have o7:=qh l8;have p0:=qh m5;have o3:=qh l6;have n6:=qh j9;clear e7 l8 m5 l6 j9 d9 f8 m4 j8 g7 a5 m2 m3 l9 B;go_wp2;go_roundw
  case rel=>exact⟨j+1,_,_,by omega,by go_num,by rw[show s-(j+1)=s-1-j by omega];exact o4.o,o7.o,p0.o,o3.o,n6.o⟩
  simp[intOf];omega
 have e0:j=s:=by omega
 have z:=h5.o;rw[e0,Nat.sub_self]at z;have a4:=z.done;have G:=z.len;have b6:=EF (some (Ad g 0)) o Lc wr (by rw[G];exact f1.o.sl);rw[G]at b6;have o6:=qh b6;clear b6;have F:=qh z;clear z;replace a4:=qh a4;have d0:=qh G;clear G h5 e0
 go_wp2_with fail
 refine o6.o.mono ?_;rintro e w6⟨D,f9,rfl,rfl⟩;replace f9:=qh f9;have r6:D<=L.length:=by have:=f9.o.1;rw[d0.o]at this;exact this
 obtain⟨X,e4⟩:=exq<|Lc.take D;have R:X.length=D:=by rw[e4,List.length_take,d0.o];omega
 have e5:bval X=(m % d)*k:=by
  rw[e4,PQ f9.o.2.1,a4.o.2,U.o,O.o,AX,Nat.mul_mod_mul_right]
 have S:Small X:=by rw[e4];exact Ez F.o.small _
 have e2:Own wr w.heap.size 196 .u64 (.slice (some (Ad g 0)) D o) X:=by
  rw[e4];exact f1.o.take (by rw[d0.o];exact r6)
 have E:=DnInv.start b0 S;rw[R]at E;replace E:=qh E;replace R:=qh R;replace e5:=qh e5;replace S:=qh S;have o2:=qh e2;clear e2 e4;have v8:(k:Int)<=999999999:=by have:=W.o;rw[Ap]at this;omega
 obtain⟨wo,rfl⟩:∃wo:World,wo=wr:=⟨_,rfl⟩
 go_wp2_with fail
 go_loopw [12,75] (λlf i wq=>∃(H I:Nat) (Lr:List Nat),H<=D/\i=.int .i64 (H:Int)/\lf=.int .u64 (I:Int)/\DnInv X Lr k (D-H) I/\Own wq w.heap.size 196 .u64 (.slice (some (Ad g 0)) D o) Lr/\
   Own wq w.heap.size 196 .u64 (.slice (some (Ad gq 0)) s s) qs/\Below w.heap.size w wq) (λ_ i _=>D-(intOf i).toNat)
 case atStart=>exact⟨0,0,X,Nat.zero_le _,rfl,rfl,E.o,o2.o,h6.o,h4.o⟩
 obtain⟨H,I,Lr,v7,rfl,rfl,A,e2,e1,P⟩:=hrel;have g1:=qh A;clear A;have J:=qh e2;clear e2;have d1:=qh e1;clear e1;have g0:=qh P;clear P;by_cases v2:H<D
 ·have A:=g1.o;rw[show D-H=D-1-H+1 by omega]at A;have c:=A.len;rw[R.o]at c;have t9:(I:Int)<=999999999:=by have h1:=A.left;have h2:=W.o;rw[Ap]at h2;omega
  have v3:((nth X (D-1-H):Nat):Int)<=999999999:=by have:=S.o<|D-1-H;rw[Ap]at this;omega
  have q9:=J.o.cell c (D-1-H) (by omega);rw[NK A.low (by omega)]at q9;have i3:=J.o.free c (D-1-H);have t8:(1:Int)<=(k:Int):=by omega
  have e6:=A.step b0 S.o;replace e6:=qh e6;clear A;have g2:=qh c;clear c
  go_wp2_with fail
  go_region
  go_wp2;go_roundw
  case rel =>
   have p8:((I:Int)*1000000000+((nth X (D-1-H):Nat):Int)) / (k:Int)=(((I*1000000000+nth X (D-1-H)) / k:Nat):Int):=by simp
   have p9:((I:Int)*1000000000+((nth X (D-1-H):Nat):Int)) % (k:Int)=(((I*1000000000+nth X (D-1-H)) % k:Nat):Int):=by simp
   rw[p8,p9];have l7:=(J.o.set g2.o (D-1-H) ((I*1000000000+nth X (D-1-H)) / k)).kept (Below.drew blr) nlr;have r4:=(d1.o.keptBy (EX (g:=g) (JB wr _) (D-1-H) (.int .u64 (((I*1000000000+nth X (D-1-H)) / k:Nat):Int))) (by have:=f0.o.1;simp;omega)).kept (Below.drew blr) nlr;exact⟨H+1,_,_,by omega,by go_num,rfl,by rw[show D-(H+1)=D-1-H by omega];exact e6.o,l7,r4,(g0.o.setCell J.o.base.1 _).drew⟩
  simp[intOf];omega
 have e0:H=D:=by omega
 have A:=g1.o;rw[e0,Nat.sub_self]at A;have K:=A.done;rw[e5.o,Nat.mul_div_cancel _ b0]at K;have c:=A.len;rw[R.o]at c;have B:qs.length=s:=by have h1:=F.o.ql;omega
 have b5:=EF (some (Ad gq 0)) s qs wr (by rw[B];exact d1.o.sl);rw[B]at b5;have a8:=EF (some (Ad g 0)) o Lr wr (by rw[c];exact J.o.sl);rw[c]at a8;have o5:=qh b5;clear b5;replace a8:=qh a8;have g2:=qh c;clear c;have r8:=qh B;clear B;replace K:=qh K;have j1:=qh A;clear A e0
 go_wp2_with fail
 refine o5.o.mono ?_;rintro e w7⟨tq,b5,rfl,rfl⟩;have Y:=qh b5;clear b5
 go_wp2_with fail
 refine a8.o.mono ?_;rintro e w8⟨tr,b6,rfl,rfl⟩;have Z:=qh b6;clear b6;go_wp2;go_ret2;refine⟨_,_,rfl,?_,?_,g0.o⟩
 ·have e:toB (m / d)=qs.take tq:=by
   rw[Ft F.o.sq Y.o.1 Y.o.2.1 Y.o.2.2,a4.o.1,U.o,O.o,AX,Nat.mul_div_mul_right _ _ b0]
  rw[e];exact d1.o.sl.take Y.o.1
 have e:toB (m % d)=Lr.take tr:=by
  rw[Ft j1.o.small Z.o.1 Z.o.2.1 Z.o.2.2,K.o]
 rw[e];exact J.o.sl.take Z.o.1
def Mw(c g:Value)(m d:Nat)(w:World)(i:Sl w .u64 c (toB m))(j:Sl w .u64 g (toB d))(hd:d≠0)(k:(toB m).length<=50000):
  Calls prog 222 #[c,g] w (DivEnd m d w):=by
 rcases Nat.lt_or_ge m d with h|h
 ·exact SJ c g m d w i j h
 exact SI c g m d w i j hd h k
variable{t:ByteArray}
def TripEnd(r:ByteArray × ByteArray × Nat)(w:World)(e:Ending)(w':World):Prop:=e=.returned (.tuple #[.string r.1,.string r.2.1,.int .i64 (r.2.2:Int)])/\Below w.heap.size w w'
def divF(s t:ByteArray):ByteArray × ByteArray × Nat:=if vld s&&vld t then (if val t=0 then (str [],str [],4) else (str (dec (val s / val t)),str (dec (val s % val t)),0)) else (str [],str [],1)
def gcdF(s t:ByteArray):ByteArray × Nat:=if vld s&&vld t then (str (dec (Nat.gcd (val s) (val t))),0) else (str [],1)
def MN(h:vld t=true)(c:val t=0):t.toList=[48]:=by
 rw[Lib.toList_data];exact UU h (show As [48]=true by decide) (by rw[show num [48]=0 from rfl];exact c)
def Ht(c:¬val t=0):¬t.toList=[48]:=by
 rw[Lib.toList_data];intro e;apply c;unfold val bts;rw[e];rfl
def SF(s t:ByteArray)(w:World)(S:s.size<=maxLen)(T:t.size<=maxLen)(m:Tab w):
  Calls prog 229 #[.string s,.string t] w (TripEnd (divF s t) w):=by
 have I:=qh m;clear m;have c1:=Cn s w S;have c2:=Cn t w T;clear S T;cases d:vld s with
 |false =>
  have c:divF s t=(str [],str [],1):=by unfold divF;rw[d];rfl
  rw[c];rw[d]at c1;clear c d c2 I;have D:=qh c1;clear c1
  go_enter func229,ntmps229
  go_wp2_with fail
  refine D.o.mono ?_;rintro e E⟨rfl,rfl⟩;go_wp2
  go_ret3
  exact⟨rfl,blr⟩
 |true =>
  cases g:vld t with
  |false =>
   have c:divF s t=(str [],str [],1):=by unfold divF;rw[d,g];rfl
   rw[c];rw[d]at c1;rw[g]at c2;clear c d g I;have D:=qh c1;clear c1;have H:=qh c2;clear c2
   go_enter func229,ntmps229
   go_wp2_with fail
   refine D.o.mono ?_;rintro e E⟨rfl,rfl⟩
   go_wp2_with fail
   refine H.o.mono ?_;rintro e E⟨rfl,rfl⟩;go_wp2
   go_ret3
   exact⟨rfl,blr⟩
  |true =>
   rw[d]at c1;rw[g]at c2;have D:=qh c1;clear c1;have H:=qh c2;clear c2;have lm:=CS d;have ln:=CS g;have Q:=Cy s w d;have N:=qh Q;clear Q;have R:=λw=>Cy t w g;have O:=qh R;clear R;replace d:=qh d;replace g:=qh g;by_cases o:val t=0
   ·have c:divF s t=(str [],str [],4):=by unfold divF;rw[d.o,g.o,ifp o];rfl
    rw[c];clear c;have l:=MN g.o o;have G:(t.toList==[48])=true:=by rw[l];rfl
    clear o N O lm ln
    go_enter func229,ntmps229
    go_wp2_with fail
    refine D.o.mono ?_;rintro e E⟨rfl,rfl⟩
    go_wp2_with fail
    refine H.o.mono ?_;rintro e E⟨rfl,rfl⟩
    go_wp2_with fail
    go_ret3
    exact⟨rfl,blr⟩
   have c:divF s t=(str (dec (val s / val t)),str (dec (val s % val t)),0):=by unfold divF;rw[d.o,g.o,ifn o];rfl
   rw[c];clear c;have l:=Ht o;have G:(t.toList==[48])=false:=by rw[beq_eq_false_iff_ne];exact l
   replace o:=qh o
   go_enter func229,ntmps229
   go_wp2_with fail
   refine D.o.mono ?_;rintro e E⟨rfl,rfl⟩
   go_wp2_with fail
   refine H.o.mono ?_;rintro e E⟨rfl,rfl⟩
   go_wp2_with fail
   clear l G;refine N.o.mono ?_;rintro e w1⟨v1,rfl,z,j⟩;replace z:=qh z;replace j:=qh j;have L:=j.o.size
   go_wp2_with fail
   refine(O.o w1).mono ?_;rintro e w2⟨v2,rfl,A,h⟩;replace A:=qh A;replace h:=qh h;have Y:=h.o.size;have J:=qh<|z.o.sl.below h.o nlr;have u:=Mw v1 v2 (val s) (val t) w2 J.o A.o.sl o.o (by omega);replace u:=qh u
   go_wp2_with fail
   refine u.o.mono ?_;rintro e w3⟨vq,vr,rfl,K,c,k⟩;replace K:=qh K;have U:=qh c;clear c;replace k:=qh k;have Z:=k.o.size;have P:=qh<|j.o.trans ((h.o.mono L).trans (k.o.mono (by omega)));have W:=Ef<|Nat.div_le_self (val s) (val t);have X:=Ef<|Nat.mod_le (val s) (val t);have B:=Gx vq (val s / val t) w3 K.o (by omega) (I.o.below P.o nlr);replace B:=qh B
   go_wp2_with fail
   refine B.o.mono ?_;rintro e w4⟨rfl,i⟩;replace i:=qh i;have a1:=i.o.size;have F:=qh<|P.o.trans (i.o.mono (by omega));have C:=Gx vr (val s % val t) w4 (U.o.below i.o nlr) (by omega) (I.o.below F.o nlr);replace C:=qh C
   go_wp2_with fail
   refine C.o.mono ?_;rintro e w5⟨rfl,p⟩;replace p:=qh p
   go_wp2_with fail
   go_ret3
   exact⟨rfl,F.o.trans (p.o.mono (by omega))⟩
def Tz(s t:ByteArray)(w:World)(T:s.size<=maxLen)(U:t.size<=maxLen)(m:Tab w):
  Calls prog 197 #[.string s,.string t] w (PairEnd (gcdF s t) w):=by
 have O:=qh m;clear m;have c1:=Cn s w T;have c2:=Cn t w U;clear T U;cases c:vld s with
 |false =>
  have h:gcdF s t=(str [],1):=by unfold gcdF;rw[c];rfl
  rw[h];rw[c]at c1;clear h c c2 O;have E:=qh c1;clear c1
  go_enter func197,ntmps197
  go_wp2_with fail
  refine E.o.mono ?_;rintro e K⟨rfl,rfl⟩;go_wp2;go_ret2;exact⟨rfl,blr⟩
 |true =>
  cases j:vld t with
  |false =>
   have h:gcdF s t=(str [],1):=by unfold gcdF;rw[c,j];rfl
   rw[h];rw[c]at c1;rw[j]at c2;clear h c j O;have E:=qh c1;clear c1;have L:=qh c2;clear c2
   go_enter func197,ntmps197
   go_wp2_with fail
   refine E.o.mono ?_;rintro e K⟨rfl,rfl⟩
   go_wp2_with fail
   refine L.o.mono ?_;rintro e K⟨rfl,rfl⟩;go_wp2;go_ret2;exact⟨rfl,blr⟩
  |true =>
   rw[c]at c1;rw[j]at c2;have E:=qh c1;clear c1;have L:=qh c2;clear c2;have lm:=CS c;have ln:=CS j;have P:=Cy s w c;replace P:=qh P;have Q:=λw=>Cy t w j;replace Q:=qh Q;replace c:=qh c;replace j:=qh j;have h:gcdF s t=(str (dec (Nat.gcd (val s) (val t))),0):=by unfold gcdF;rw[c.o,j.o];rfl
   rw[h];clear h
   go_enter func197,ntmps197
   go_wp2_with fail
   refine E.o.mono ?_;rintro e K⟨rfl,rfl⟩
   go_wp2_with fail
   refine L.o.mono ?_;rintro e K⟨rfl,rfl⟩
   go_wp2_with fail
   refine P.o.mono ?_;rintro e w1⟨v1,rfl,B,k⟩;replace B:=qh B;replace k:=qh k;have R:=k.o.size
   go_wp2_with fail
   refine(Q.o w1).mono ?_;rintro e w2⟨v2,rfl,C,d⟩;replace C:=qh C;replace d:=qh d;have Z:=d.o.size;have N:=qh<|B.o.sl.below d.o nlr
   go_wp2_with fail
   go_loopg [6,7] (val t) (λg vx vy wr=>∃p:Nat,Sl wr .u64 vx (toB p)/\Sl wr .u64 vy (toB g)/\Nat.gcd p g=Nat.gcd (val s) (val t)/\(toB p).length<=112/\(toB g).length<=112/\Below w.heap.size w wr)
   case atStart=>exact⟨val s,N.o,C.o.sl,rfl,lm,ln,k.o.trans (d.o.mono R)⟩
   obtain⟨p,G,H,J,X,F,hb⟩:=hrel;obtain⟨a1,c1,rfl⟩:=G.shape;obtain⟨a2,c2,rfl⟩:=H.shape;replace G:=qh G;replace H:=qh H;replace J:=qh J;replace hb:=qh hb;have I:=hb.o.size;by_cases i:gk=0
   ·have A:(toB gk).length=0:=by rw[i];rfl
    have z:p=Nat.gcd (val s) (val t):=by rw[<-J.o,i,Nat.gcd_zero_right]
    rw[A];replace z:=qh z;clear i A F;have D:=Gx _ p wr G.o (by omega) (O.o.below hb.o nlr);replace D:=qh D
    go_wp2_with fail
    refine D.o.mono ?_;rintro e w5⟨rfl,o⟩;replace o:=qh o;go_wp2;go_ret2;exact⟨Ij (by rw[z.o]) rfl,hb.o.trans (o.o.mono I)⟩
   have A:=Eg i;have u:=Mw _ _ p gk wr G.o H.o i (by omega);replace u:=qh u;have Y:=Ef<|Nat.le_of_lt (Nat.mod_lt p (Nat.pos_of_ne_zero i));replace i:=qh i
   go_wp2_with fail
   refine u.o.mono ?_;rintro e w3⟨vq,vr,rfl,S,h,l⟩;replace S:=qh S;have W:=qh h;clear h;replace l:=qh l
   go_wp2_with fail
   go_roundg (p % gk)
   case measure=>exact Nat.mod_lt _ (Nat.pos_of_ne_zero i.o)
   case rel=>exact⟨gk,H.o.below l.o nlr,W.o,by rw[<-J.o,Nat.gcd_comm gk,<-Nat.gcd_rec,Nat.gcd_comm],F,by omega,hb.o.trans (l.o.mono I)⟩
variable{s:ByteArray}
def fits(n:Nat):Prop:=(dec n).length<=1000
theorem AD(n:Nat):val (str (dec n))=n:=by unfold val;rw[AK];exact CJ n
def AT(h:fits n):vld (str (dec n))=true:=by unfold vld;rw[AK];exact Lj h
def Ey(h:vld s=true):str (dec (val s))=s:=by unfold val;rw[BU h,Ee]
theorem FK(h:vld s=true):fits (val s):=by unfold fits val;rw[BU h,Aq];exact(BI h).2
def Cd{m:Nat}(h:fits n)(c:m<=n):fits m:=by
 unfold fits at *;exact BK.2 ⟨Nat.lt_of_le_of_lt c (BK.1 h).1,by omega⟩
def AR(h:fits n):(str (dec n)).size<=maxLen:=by rw[AH];unfold fits at h;unfold maxLen;omega
def Nc(h:fits n):limS n=(str (dec n),0):=ifp h
def QK(c:vld s=true)(d:vld t=true):addF s t=limS (val s+val t):=by unfold addF;rw[c,d];rfl
def UB(c:vld s=true)(d:vld t=true):mulF s t=limS (val s*val t):=by unfold mulF;rw[c,d];rfl
def Lz(c:vld s=true)(d:vld t=true)(h:fits (val s+val t)):addF s t=(str (dec (val s+val t)),0):=by rw[QK c d,Nc h]
theorem Nx(c:vld s=true)(d:vld t=true)(h:fits (val s*val t)):mulF s t=(str (dec (val s*val t)),0):=by rw[UB c d,Nc h]
theorem Xv(c:vld s=true)(d:vld t=true):subF s t=if val s<val t then (⟨#[]⟩,4) else (str (dec (val s-val t)),0):=by unfold subF;rw[c,d];rfl
def Pt(c:vld s=true)(d:vld t=true)(h:val t<=val s):subF s t=(str (dec (val s-val t)),0):=by rw[Xv c d,ifn (by omega)]
theorem SE(c:vld s=true)(d:vld t=true):divF s t=if val t=0 then (⟨#[]⟩,⟨#[]⟩,4) else (str (dec (val s / val t)),str (dec (val s % val t)),0):=by unfold divF;rw[c,d];rfl
def Jo(c:vld s=true)(d:vld t=true)(h:val t≠0):divF s t=(str (dec (val s / val t)),str (dec (val s % val t)),0):=by rw[SE c d,ifn h]
theorem MK(c:vld s=true)(d:vld t=true):gcdF s t=(str (dec (Nat.gcd (val s) (val t))),0):=by unfold gcdF;rw[c,d];rfl
variable{b c d k:Nat}{q:Rat}
def MI(h:n<10 ^ k)(d:k<=1000)(c:1<=k):fits n:=by
 unfold fits;have:=BK.2 ⟨h,c⟩;omega
def BD(h:fitQ q):fits q.num.natAbs:=by unfold fits;have:=h.1;omega
def AY(h:fitQ q):fits q.den:=by unfold fits;have:=h.2;omega
def pow400(h:(dec n).length<=400):n<10 ^ 400:=(BK.1 h).1
def JX(c:m<10 ^ k)(d:n<10 ^ k):m*n<10 ^ (k+k):=by rw[Nat.pow_add];exact Ul c d
def XD(g:a<10 ^ k)(hb:b<10 ^ k)(h:c<10 ^ k)(hd:d<10 ^ k):a*b+c*d<10 ^ (k+k+1):=by
 have i:=JX g hb;have j:=JX h hd;rw[Nat.pow_succ];omega
def Bn(c:(dec m).length<=400)(hn:(dec n).length<=400):fits (m*n) :=
 MI (JX (pow400 c) (pow400 hn)) (by omega) (by omega)
def FJ(g:(dec a).length<=400)(hb:(dec b).length<=400)(h:(dec c).length<=400)(hd:(dec d).length<=400):fits (a*b+c*d) :=
 MI (XD (pow400 g) (pow400 hb) (pow400 h) (pow400 hd)) (by omega) (by omega)
def StrE(s:ByteArray)(w:World)(e:Ending)(w':World):Prop:=e=.returned (.string s)/\Below w.heap.size w w'
def StrZ(s:ByteArray)(w:World)(e:Ending)(w':World):Prop:=e=.returned (.tuple #[.string s,.int .i64 0])/\Below w.heap.size w w'
def UN(m n:Nat)(w:World)(c:fits m)(hn:fits n)(h:fits (m+n))(d:Tab w):
  Calls prog 198 #[.string (str (dec m)),.string (str (dec n))] w (StrZ (str (dec (m+n))) w):=by
 have:=QQ (str (dec m)) (str (dec n)) w (AR c) (AR hn) d;rw[Lz (AT c) (AT hn) (by rw[AD,AD];exact h),AD,AD]at this;exact this
def NJ(m n:Nat)(w:World)(c:fits m)(hn:fits n)(h:n<=m)(d:Tab w):
  Calls prog 200 #[.string (str (dec m)),.string (str (dec n))] w (StrZ (str (dec (m-n))) w):=by
 have:=Xw (str (dec m)) (str (dec n)) w (AR c) (AR hn) d;rw[Pt (AT c) (AT hn) (by rw[AD,AD];exact h),AD,AD]at this;exact this
def CI(m n:Nat)(w:World)(c:fits m)(hn:fits n)(h:fits (m*n))(d:Tab w):
  Calls prog 166 #[.string (str (dec m)),.string (str (dec n))] w (StrZ (str (dec (m*n))) w):=by
 have:=UF (str (dec m)) (str (dec n)) w (AR c) (AR hn) d;rw[Nx (AT c) (AT hn) (by rw[AD,AD];exact h),AD,AD]at this;exact this
def NE(m n:Nat)(w:World)(c:fits m)(hn:fits n)(d:Tab w):
  Calls prog 197 #[.string (str (dec m)),.string (str (dec n))] w (StrZ (str (dec (Nat.gcd m n))) w):=by
 have:=Tz (str (dec m)) (str (dec n)) w (AR c) (AR hn) d;rw[MK (AT c) (AT hn),AD,AD]at this;exact this
def UO(m n:Nat)(w:World)(c:fits m)(hn:fits n)(h:n≠0)(d:Tab w):
  Calls prog 229 #[.string (str (dec m)),.string (str (dec n))] w λe w'=>e=.returned (.tuple #[.string (str (dec (m / n))),.string (str (dec (m % n))),.int .i64 0])/\Below w.heap.size w w':=by
 have:=SF (str (dec m)) (str (dec n)) w (AR c) (AR hn) d;rw[Jo (AT c) (AT hn) (by rw[AD];exact h),AD,AD]at this;exact this
def NC(m n:Nat)(w:World)(c:fits m)(hn:fits n):
  Calls prog 199 #[.string (str (dec m)),.string (str (dec n))] w (IntEnd (cmpN m n) w):=by
 have:=RU (str (dec m)) (str (dec n)) w (AR c) (AR hn);unfold cmpF at this;rw[AT c,AT hn,AD,AD]at this;exact this
def On(m n:Nat)(w:World)(d:fits m)(hn:fits n)(h:n≠0)(g:Tab w):
  Calls prog 212 #[.string (str (dec m)),.string (str (dec n))] w (StrE (str (dec (m / n))) w):=by
 have c:=UO m n w d hn h g;replace c:=qh c;clear d hn h g
 go_enter func212,ntmps212
 go_wp2_with fail
 refine nxa c.o λj i=>?_
 go_wp2_with fail
 refine(AZ _ _).mono ?_;rintro e k⟨rfl,rfl⟩;go_wp2;go_ret;exact⟨rfl,i.o⟩
def Ks(p q:Bool)(m n:Nat)(w:World)(h:fits (m+n))(j:Tab w):
  Calls prog 164 #[.bool p,.string (str (dec m)),.bool q,.string (str (dec n))] w λe w' =>
   e=.returned (.tuple #[.bool (sumF p m q n).1,.string (str (dec (sumF p m q n).2))])/\Below w.heap.size w w':=by
 have k:fits m:=Cd h (by omega);have l:fits n:=Cd h (by omega);by_cases g:p=q
 ·subst g;have o:sumF p m p n=(p,m+n):=by unfold sumF;rw[ifp rfl]
  rw[o];have i:=UN m n w k l h j;have B:=qh i;clear i k l h j o;have I:(p==p)=true:=by cases p<;>rfl
  go_enter func164,ntmps164
  go_wp2_with fail
  refine nxa B.o λs E=>?_
  go_wp2_with fail
  refine(AZ _ _).mono ?_;rintro e H⟨rfl,rfl⟩;go_wp2;go_ret2;exact⟨rfl,E.o⟩
 have hb:(p==q)=false:=by rw[beq_eq_false_iff_ne];exact g
 by_cases d:m<n;have o:sumF p m q n=(q,n-m):=by unfold sumF;rw[ifn g,ifp d]
 rw[o];have i:=NC m n w k l;rw[Cq d]at i;have hd:=λs j=>NJ n m s l k (Nat.le_of_lt d) j
 rotate_left
 have o:sumF p m q n=(p,m-n):=by unfold sumF;rw[ifn g,ifn d]
 rw[o];have i:=NC m n w k l;have C:0<=cmpN m n:=by
  rcases Nat.lt_or_ge n m with D|D
  ·rw[CV D];omega
  rw[DT (by omega)];omega
 generalize cmpN m n=z at i C;have hd:=λs j=>NJ m n s k l (by omega) j
 all_goals
  have B:=qh i;clear i;have F:=qh hd;clear hd;have G:=qh j;clear k l h j o d g
  go_enter func164,ntmps164
  go_wp2_with fail
  refine B.o.mono ?_;rintro e s⟨rfl,c⟩;replace c:=qh c
  go_wp2_with fail
  refine(F.o s (G.o.below c.o nlr)).mono ?_;rintro e H⟨rfl,u⟩;have A:=qh<|c.o.trans (u.mono c.o.size);clear u
  go_wp2_with fail
  refine(AZ _ _).mono ?_;rintro e J⟨rfl,rfl⟩;go_wp2;go_ret2;exact⟨rfl,A.o⟩
end
end Go.Proofs.YtpldocnhbdlgfaaGreatDoor
