/- Parts. -/
import Derived.Test.YteappjogmnogcaaGreatDoorZ04
import Derived.Handy
import Derived.Deep.RegionHeld2
import Derived.Deep.DrawnRows
namespace Go.Proofs.YteappjogmnogcaaGreatDoor
set_option maxRecDepth 100000
set_option linter.all false
set_option maxHeartbeats 16000000
open Go Tryz
section
open Go.RowKit
variable{i n q r:Nat}{c d g j k xs:List Nat}
structure Est(us vs:List Nat)(n q r:Nat):Prop where
 top:q*nth vs (n-1)+r=nth us n*BB+nth us (n-1)
 ge:bval us / bval vs<=q
structure DivIn(us vs:List Nat)(n:Nat):Prop where
 su:Small us
 sv:Small vs
 n1:1<=n
 lu:us.length=n+1
 lv:vs.length=n
 v1:1<=nth vs (n-1)
 lt:bval us<bval vs*BB
def OZ(h:1<=n):BB ^ n=BB ^ (n-1)*BB:=by
 obtain⟨k,rfl⟩:∃k,n=k+1:=⟨n-1,by omega⟩;exact Nat.pow_succ ..
def Pb(h:2<=n):BB ^ (n-1)=BB ^ (n-2)*BB:=by
 obtain⟨k,rfl⟩:∃k,n=k+2:=⟨n-2,by omega⟩;exact Nat.pow_succ ..
def GX(h:xs.length=n+1)(i:1<=n):bval xs=bval (xs.take (n-1))+BB ^ (n-1)*(nth xs n*BB+nth xs (n-1)):=by
 have c:=BC xs n;rw[Cs (by omega)]at c;have d:=BC xs (n-1);rw[show n-1+1=n by omega]at d;have g:BB ^ n=BB ^ (n-1)*BB:=OZ i;rw[c,d,g,Nat.mul_add,<-Nat.mul_assoc,Nat.mul_assoc (BB ^ (n-1)) BB,Nat.mul_comm BB (nth xs n)];rw[Nat.mul_assoc];omega
def GW(h:xs.length=n)(d:1<=n):bval xs=bval (xs.take (n-1))+BB ^ (n-1)*nth xs (n-1):=by
 have c:=BC xs (n-1);rw[show n-1+1=n by omega,Cs (by omega)]at c;exact c
def GF(h:Small xs)(k:Nat)(c:k<=xs.length):bval (xs.take k)<BB ^ k:=by
 have:=Ce<|EI h k;rwa [List.length_take,Nat.min_eq_left c]at this
def DivIn.vpos(h:DivIn d c n):BB ^ (n-1)<=bval c:=by
 rw[GW h.lv h.n1];have:BB ^ (n-1)*1<=BB ^ (n-1)*nth c (n-1):=Nat.mul_le_mul_left _ h.v1;omega
def DivIn.vpos'(h:DivIn d c n):0<bval c:=Nat.lt_of_lt_of_le (Nat.pow_pos AO) h.vpos
def DivIn.qlt(h:DivIn c d n):bval c / bval d<BB:=Nat.div_lt_of_lt_mul h.lt
theorem Est.start(h:DivIn c d n):
  Est c d n ((nth c n*BB+nth c (n-1)) / nth d (n-1)) ((nth c n*BB+nth c (n-1)) % nth d (n-1)):=by
 refine⟨by rw[Nat.mul_comm];exact Nat.div_add_mod _ _,?_⟩;rw[Nat.le_div_iff_mul_le h.v1];have i:=Nat.div_mul_le_self (bval c) (bval d);generalize bval c / bval d=Q at *;have j:=GX h.lu h.n1;have k:=GF h.su (n-1) (by rw[h.lu];omega);have l:=GW h.lv h.n1;have m:Q*(BB ^ (n-1)*nth d (n-1))<=Q*bval d:=Nat.mul_le_mul_left _ (by omega);have g:BB ^ (n-1)*(Q*nth d (n-1))<BB ^ (n-1)*(nth c n*BB+nth c (n-1)+1):=by
  rw[Nat.mul_left_comm,Nat.mul_add];omega
 have:=Nat.lt_of_mul_lt_mul_left g;omega
def Mv(h:xs.length=n+1)(g:2<=n):bval xs=bval (xs.take (n-2))+BB ^ (n-2)*((nth xs n*BB+nth xs (n-1))*BB+nth xs (n-2)):=by
 have c:=BC xs (n-2);rw[show n-2+1=n-1 by omega]at c;rw[GX h (by omega),c];have d:BB ^ (n-1)=BB ^ (n-2)*BB:=Pb g;rw[d,Nat.mul_add (BB ^ (n-2)),Nat.mul_assoc,Nat.mul_comm BB (nth xs n*BB+nth xs (n-1))];omega
def Mu(h:xs.length=n)(c:2<=n):bval xs=bval (xs.take (n-2))+BB ^ (n-2)*(nth xs (n-1)*BB+nth xs (n-2)):=by
 have:=GX (n:=n-1) (xs:=xs) (by omega) (by omega)
 rwa [show n-1-1=n-2 by omega]at this
def Est.back(h:DivIn d c n)(k:Est d c n q r)(i:BB<=q\/(2<=n/\r*BB+nth d (n-2)<q*nth c (n-2))):
  1<=q/\Est d c n (q-1) (r+nth c (n-1)):=by
 have g:bval d / bval c<q:=by
  rcases i with i|⟨l,i⟩
  ·exact Nat.lt_of_lt_of_le h.qlt i
  rw[Nat.div_lt_iff_lt_mul h.vpos'];have p:=Mv h.lu l;have s:=Mu h.lv l;have u:=GF h.su (n-2) (by rw[h.lu];omega);have m:(nth d n*BB+nth d (n-1))*BB+nth d (n-2)+1<=q*(nth c (n-1)*BB+nth c (n-2)):=by
   rw[<-k.top,Nat.add_mul,Nat.mul_add,Nat.mul_assoc];omega
  have o:BB ^ (n-2)*((nth d n*BB+nth d (n-1))*BB+nth d (n-2)+1)<=BB ^ (n-2)*(q*(nth c (n-1)*BB+nth c (n-2))):=Nat.mul_le_mul_left _ m;have z:BB ^ (n-2)*(q*(nth c (n-1)*BB+nth c (n-2)))<=q*bval c:=by
   rw[Nat.mul_left_comm];exact Nat.mul_le_mul_left _ (by omega)
  rw[Nat.mul_add (BB ^ (n-2)) _ 1,Nat.mul_one]at o;omega
 have j:1<=q:=Nat.lt_of_le_of_lt nzl g;refine⟨j,?_,Nat.le_sub_one_of_lt g⟩;clear g;have:=k.top;have e:q*nth c (n-1)=(q-1)*nth c (n-1)+nth c (n-1):=by
  have:q=q-1+1:=by omega
  rw[this,Nat.add_mul,Nat.one_mul,Nat.add_sub_cancel]
 omega
def Est.done(h:DivIn d c n)(k:Est d c n q r)(p:q<BB)(s:n=1\/BB<=r\/(2<=n/\q*nth c (n-2)<=r*BB+nth d (n-2))):
  q*bval c<bval d+bval c:=by
 by_cases o:n=1
 ·subst o;have g:=GX h.lu (by omega);have j:=GW h.lv (by omega);simp only[Nat.sub_self,Nat.pow_zero,Nat.one_mul,List.take_zero,show bval []=0 from rfl,Nat.zero_add]at g j;have:=k.top;simp only[Nat.sub_self]at this;have:=h.vpos';rw[j]at *;omega
 have i:2<=n:=by have:=h.n1;omega
 have u:q*nth c (n-2)<=r*BB+nth d (n-2):=by
  rcases s with g|g|g
  ·omega
  ·have j:q*nth c (n-2)<=BB*BB:=Nat.mul_le_mul (by omega) (by have:=h.sv<|n-2;omega);have l:BB*BB<=r*BB:=Nat.mul_le_mul_right _ g;omega
  exact g.2
 have g:=Mv h.lu i;have j:=Mu h.lv i;have l:=GF h.sv (n-2) (by rw[h.lv];omega);have m:q*(nth c (n-1)*BB+nth c (n-2))<=(nth d n*BB+nth d (n-1))*BB+nth d (n-2):=by
  rw[<-k.top,Nat.add_mul,Nat.mul_add,Nat.mul_assoc];omega
 have z:BB ^ (n-2)*(q*(nth c (n-1)*BB+nth c (n-2)))<=BB ^ (n-2)*((nth d n*BB+nth d (n-1))*BB+nth d (n-2)):=Nat.mul_le_mul_left _ m;have A:q*bval c=q*bval (c.take (n-2))+BB ^ (n-2)*(q*(nth c (n-1)*BB+nth c (n-2))):=by
  rw[j,Nat.mul_add,Nat.mul_left_comm]
 have B:q*bval (c.take (n-2))<BB ^ (n-1):=by
  have e:BB ^ (n-1)=BB*BB ^ (n-2):=by rw[Nat.mul_comm];exact Pb i
  rw[e];exact Nat.mul_lt_mul_of_lt_of_le p (by omega) (Nat.pow_pos AO)
 have:=h.vpos;omega
structure SubIn(us vs us':List Nat)(q i c bo:Nat):Prop where
 len:us'.length=us.length
 small:Small us'
 carry:c<BB
 borrow:bo<=1
 same:∀j,i<=j->nth us' j=nth us j
 val:bval (us'.take i)+q*bval (vs.take i)=bval (us.take i)+BB ^ i*(c+bo)
theorem SubIn.start(c d:List Nat)(q:Nat)(h:Small c):SubIn c d c q 0 0 0:=⟨rfl,h,AO,by omega,λ_ _=>rfl,by simp[bval]⟩
theorem take_set(L:List Nat)(i v:Nat):(L.set i v).take i=L.take i:=by
 rw[List.take_set];apply List.set_eq_of_length_le;rw[List.length_take];omega
def dSub(u c b x:Nat):Nat:=u+1000000000-(c+x) % 1000000000-b
def MP{u c b x:Nat}(hb:b<=1):((u:Int)+1000000000-((c:Int)+(x:Int)) % 1000000000-(b:Int))=((dSub u c b x:Nat):Int):=by unfold dSub;omega
def SubIn.step{m:List Nat}{c o:Nat}(h:SubIn k g m q i c o)(G:Small g)(E:q<BB)(hi:i<k.length):
  SubIn k g (m.set i (dSub (nth k i) c o (q*nth g i) % 1000000000)) q (i+1) ((c+q*nth g i) / 1000000000) (1-dSub (nth k i) c o (q*nth g i) / 1000000000):=by
 have hb:=Kf (l:=0) AO h.carry E (G i);rw[Nat.zero_add]at hb;have F:nth k i<BB:=by rw[<-h.same i nlr];exact h.small i
 have p:i<m.length:=by rw[h.len];exact hi
 have s:=h.val;have C:=h.carry;have B:=h.borrow;have I:(c+q*nth g i) % 1000000000<1000000000:=Nat.mod_lt _ (by omega);have D:(c+q*nth g i) % 1000000000+1000000000*((c+q*nth g i) / 1000000000)=c+q*nth g i:=Nat.mod_add_div _ _;rw[An]at F C;refine⟨by simp[h.len],GA h.small _ _ (by rw[An];exact Nat.mod_lt _ (by omega)),by rw[An];omega,by omega,λj H=>?_,?_⟩
 ·rw[Fl _ _ _ _ p,ifn (by omega)];exact h.same j (by omega)
 rw[BC,BC g,BC k,take_set,Fl _ _ _ _ p,ifp rfl,Nat.mul_add,Nat.pow_succ];generalize hd:dSub (nth k i) c o (q*nth g i)=d at *;unfold dSub at hd;generalize hx:q*nth g i=x at *;have u:q*(BB ^ i*nth g i)=BB ^ i*x:=by rw[Nat.mul_left_comm,hx]
 rw[u];have z:d % 1000000000+x+c+o=nth k i+BB*((c+x) / 1000000000+(1-d / 1000000000)):=by rw[An];omega
 have A:BB ^ i*(d % 1000000000+x+c+o)=BB ^ i*nth k i+BB ^ i*BB*((c+x) / 1000000000+(1-d / 1000000000)):=by rw[z,Nat.mul_add,Nat.mul_assoc]
 rw[Nat.mul_add,Nat.mul_add,Nat.mul_add]at A;rw[Nat.mul_add (BB ^ i)]at s;omega
def SubIn.last{c:Nat}(h:SubIn j d g q n c i)(k:d.length=n):(c+q*nth d n) / 1000000000=0:=by
 rw[AT d n (by omega),Nat.mul_zero,Nat.add_zero];have:=h.carry;rw[An]at this;exact Nat.div_eq_of_lt this
def SubIn.done{i:List Nat}{k:Nat}(h:SubIn i j d q (n+1) 0 k)(l:i.length=n+1)(m:j.length=n):
  bval d+q*bval j=bval i+BB ^ (n+1)*k/\bval d<BB ^ (n+1):=by
 have c:=h.val;have g:=h.len;rw[Cs (by omega),Cs (by omega),Cs (by omega),Nat.zero_add]at c;have:=Ce h.small;rw[g,l]at this;exact⟨c,this⟩
theorem SubIn.fits(i:DivIn c d n)(h:SubIn c d g q (n+1) 0 0)(o:bval c / bval d<=q):q=bval c / bval d/\bval g=bval c % bval d:=by
 obtain⟨k,l⟩:=h.done i.lu i.lv;rw[Nat.mul_zero,Nat.add_zero]at k;have m:q<=bval c / bval d:=by rw[Nat.le_div_iff_mul_le i.vpos'];omega
 have j:q=bval c / bval d:=by omega
 refine⟨j,?_⟩;have:=Nat.div_add_mod (bval c) (bval d);rw[<-j,Nat.mul_comm]at this;omega
structure AddIn(us vs us':List Nat)(i c:Nat):Prop where
 len:us'.length=us.length
 small:Small us'
 carry:c<=1
 same:∀j,i<=j->nth us' j=nth us j
 val:bval (us'.take i)+BB ^ i*c=bval (us.take i)+bval (vs.take i)
theorem AddIn.start(c d:List Nat)(h:Small c):AddIn c d c 0 0:=⟨rfl,h,by omega,λ_ _=>rfl,by simp[bval]⟩
def AddIn.step{c:Nat}(h:AddIn d k g i c)(z:Small k)(hi:i<d.length):
  AddIn d k (g.set i ((nth d i+c+nth k i) % 1000000000)) (i+1) ((nth d i+c+nth k i) / 1000000000):=by
 have u:nth d i<BB:=by rw[<-h.same i nlr];exact h.small i
 have m:=z i;have l:i<g.length:=by rw[h.len];exact hi
 have o:=h.val;have A:=h.carry;rw[An]at u m;refine⟨by simp[h.len],GA h.small _ _ (by rw[An];exact Nat.mod_lt _ (by omega)),by omega,λj B=>?_,?_⟩
 ·rw[Fl _ _ _ _ l,ifn (by omega)];exact h.same j (by omega)
 rw[BC,BC k,BC d,take_set,Fl _ _ _ _ l,ifp rfl,Nat.pow_succ];generalize nth d i=a at *;generalize nth k i=x at *;have p:(a+c+x) % 1000000000+BB*((a+c+x) / 1000000000)=a+c+x:=by rw[An];omega
 have s:BB ^ i*(a+c+x)=BB ^ i*((a+c+x) % 1000000000)+BB ^ i*BB*((a+c+x) / 1000000000):=by rw[Nat.mul_assoc,<-Nat.mul_add,p]
 rw[Nat.mul_add,Nat.mul_add]at s;omega
theorem AddIn.fits{h o:List Nat}{c:Nat}(j:DivIn h d n)(B:SubIn h d o q (n+1) 0 1)(p:AddIn o d g (n+1) c)(N:bval h / bval d<=q)(H:q*bval d<bval h+bval d):
  1<=q/\q-1=bval h / bval d/\bval g=bval h % bval d:=by
 obtain⟨z,I⟩:=B.done j.lu j.lv;have l:=p.len;have s:=B.len;have m:=j.lu;have G:=j.lv;have i:=p.val;rw[Cs (by omega),Cs (by omega),Cs (by omega)]at i;have D:=Ce p.small;rw[l,s,m]at D;rw[Nat.mul_one]at z;have u:1<=q:=by
  rcases Nat.eq_zero_or_pos q with k|k
  ·subst k;rw[Nat.zero_mul]at z;have:=Ce j.su;rw[m]at this;omega
  exact k
 have e:q*bval d=(q-1)*bval d+bval d:=by
  have:q=q-1+1:=by omega
  rw[this,Nat.add_mul,Nat.one_mul,Nat.add_sub_cancel]
 have F:c=1:=by
  have:=p.carry
  rcases Nat.eq_zero_or_pos c with k|k
  ·subst k;rw[Nat.mul_zero,Nat.add_zero]at i;omega
  omega
 subst F;rw[Nat.mul_one]at i;have E:(q-1)*bval d<=bval h:=by omega
 have J:bval g=bval h-(q-1)*bval d:=by omega
 have K:bval g<bval d:=by omega
 have A:q-1=bval h / bval d:=by
  have L:q-1<=bval h / bval d:=by rw[Nat.le_div_iff_mul_le j.vpos'];exact E
  have C:bval h / bval d<q:=by rw[Nat.div_lt_iff_lt_mul j.vpos'];omega
  omega
 refine⟨u,A,?_⟩;have:=Nat.div_add_mod (bval h) (bval d);rw[<-A,Nat.mul_comm]at this;omega
variable{w w1:World}{r:Option Nat}
def JK(w:World)(r:Option Nat):w.grownBy w r:=⟨rfl,rfl,rfl,nlr,λ_ _ _=>rfl⟩
def Vj{i:World}(h:w.grownBy w1 r)(c:w1.grownBy i r):w.grownBy i r :=
 ⟨c.os.trans h.os,c.tape.trans h.tape,c.output.trans h.output,Nat.le_trans h.size c.size,λk g d=>(c.block k (Nat.lt_of_lt_of_le g h.size) d).trans (h.block k g d)⟩
def Dq(h:w.grownBy w1 r)(n:Nat):w.grownBy (w1.drewN n) r:=⟨h.os,h.tape,h.output,h.size,h.block⟩
def Fb{g:Nat}(h:w.grownBy w1 (some g))(j:Nat)(v:Value):w.grownBy (w1.setCell (Ad g j) v) (some g) :=
 Vj h ⟨rfl,rfl,rfl,by simp[World.setCell],λk _ c=>Below.heap_setCell _ _ _ _ (by intro e;apply c;rw[e])⟩
def Gg(A c C:List Nat)(i:Nat)(h:i<c.length):nth (A++c++C) (A.length+i)=nth c i:=by
 rw[Gd _ _ _ (by rw[List.length_append];omega),Ge _ _ _ (by omega),Nat.add_sub_cancel_left]
theorem set_mid(A c C:List Nat)(i v:Nat)(h:i<c.length):(A++c++C).set (A.length+i) v=A++c.set i v++C:=by
 rw[List.set_append_left _ _ (by rw[List.length_append];omega),List.set_append_right _ _ (by omega),Nat.add_sub_cancel_left]
def DigEnd(B g N cap:Nat)(A us C vs:List Nat)(w:World)(e:Ending)(w':World):Prop :=
 ∃us':List Nat,e=.returned (.int .u64 ((bval us / bval vs:Nat):Int))/\us'.length=us.length/\Small us'/\bval us'=bval us % bval vs/\
  Own w' B 179 .u64 (.slice (some (Ad g 0)) N cap) (A++us'++C)/\w.grownBy w' (some g)
set_option maxRecDepth 100000 in
theorem TR(B g N cap f0 bv ov cv n:Nat)(A z C j:List Nat)(w:World)(hN:(A++z++C).length=N)(d0:Own w B 179 .u64 (.slice (some (Ad g 0)) N cap) (A++z++C))
  (p:DivIn z j n) (hn:n<=100000) (b9:bv≠g) (hv:∀i,i<n->w.cell? (Ad bv (ov+i))=some (.int .u64 ((nth j i:Nat):Int))) :
  Calls prog 238 #[.slice (some (Ad g A.length)) (n+1) f0,.slice (some (Ad bv ov)) n cv] w (DigEnd B g N cap A z C j w):=by
 replace p:=qh p;replace hN:=qh hN;have HO:=qh d0;clear d0;replace hv:=qh hv;have h1:=p.o.n1;have s:=p.o.lu;replace s:=qh s;have un:w.cell? (Ad g (A.length+n))=some (.int .u64 ((nth z n:Nat):Int)):=by
  have h:=HO.o.cell hN.o (A.length+n) (by rw[<-hN.o,List.length_append,List.length_append,s.o];omega)
  rwa [Gg _ _ _ _ (by rw[s.o];omega)]at h
 have i3:w.cell? (Ad g (A.length+(n-1)))=some (.int .u64 ((nth z (n-1):Nat):Int)):=by
  have h:=HO.o.cell hN.o (A.length+(n-1)) (by rw[<-hN.o,List.length_append,List.length_append,s.o];omega)
  rwa [Gg _ _ _ _ (by rw[s.o];omega)]at h
 have g2:=hv.o (n-1) (by omega);have h9:=p.o.v1;have f8:=p.o.su n;have d3:=p.o.su<|n-1;rw[An]at f8 d3
 go_enter func238,ntmps238
 go_wp2_with fail
 go_quiet (fail)
 go_wp2_with fail
 go_quiet (fail)
 go_upto_block 0 with (fail)
 generalize hw2:(World.drewN _ _)=w2;have m:w.grownBy w2 (some g):=by rw[<-hw2];exact Dq (Dq (JK _ _) _) _
 have b2:Below w.heap.size w w2:=by rw[<-hw2];exact below_drewN (below_drewN blr _) _
 have o:Own w2 B 179 .u64 (.slice (some (Ad g 0)) N cap) (A++z++C):=HO.o.kept b2 nlr;have e5:=qh m;clear m;have e7:=qh o;clear o;clear hw2 b2 un i3 g2 HO
 go_cut [7,8] from 43 (λq r wx=>∃d O:Nat,q=.int .u64 (d:Int)/\r=.int .u64 (O:Int)/\d<BB/\bval z / bval j<=d/\d*bval j<bval z+bval j/\
   Own wx B 179 .u64 (.slice (some (Ad g 0)) N cap) (A++z++C)/\w.grownBy wx (some g))
 case first =>
  go_wp2_with fail
  go_loopw [7,8] (λq r wr=>∃d O:Nat,q=.int .u64 (d:Int)/\r=.int .u64 (O:Int)/\Est z j n d O/\
    Own wr B 179 .u64 (.slice (some (Ad g 0)) N cap) (A++z++C)/\w.grownBy wr (some g)) (λq _ _=>(intOf q).toNat)
  case atStart =>
   have he:=Est.start p.o;rw[An]at he;exact⟨_,_,by go_num,by go_num,he,e7.o,e5.o⟩
  obtain⟨d,O,rfl,rfl,he,o,m⟩:=hrel;have d2:=he.top;have f7:=p.o.su<|n-2;have f9:=p.o.sv<|n-2;have i2:=p.o.sv<|n-1;rw[An]at d2 f7 f9 i2;have j0:d<=999999999999999999:=by
   have:d*1<=d*nth j (n-1):=Nat.mul_le_mul_left _ h9;omega
  have j1:O<=999999999999999999:=by omega
  have f4:(((n:Int)-1).toNat)=n-1:=by omega
  have g2:wr.cell? (Ad bv (ov+(n-1)))=some (.int .u64 ((nth j (n-1):Nat):Int)):=m.cell (hv.o (n-1) (by omega)) (by simpa using b9);have c8:2<=n->wr.cell? (Ad g (A.length+(n-2)))=some (.int .u64 ((nth z (n-2):Nat):Int)):=λh2=>by
   have h:=o.cell hN.o (A.length+(n-2)) (by rw[<-hN.o,List.length_append,List.length_append,s.o];omega)
   rwa [Gg _ _ _ _ (by rw[s.o];omega)]at h
  have c9:2<=n->wr.cell? (Ad bv (ov+(n-2)))=some (.int .u64 ((nth j (n-2):Nat):Int)):=λh2=>m.cell (hv.o (n-2) (by omega)) (by simpa using b9);have HE:=qh he;clear he d2 f4;have F:=qh o;clear o;have E:=qh m;clear m;by_cases hA:BB<=d
  ·have a3:=HE.o.back p.o (.inl hA);have H:=qh a3;clear a3;rw[An]at hA;have f1:(1000000000:Int)<=(d:Int):=by omega
   clear c8 c9
   go_wp2_with fail
   go_quiet (fail)
   go_wp2_with fail
   ·have b1:(1000000000:Int)<=(O:Int)+((nth j (n-1):Nat):Int):=by assumption
    have i7:(d:Int)-1<1000000000:=by assumption
    go_meet
    refine⟨d-1,O+nth j (n-1),by go_num,by go_num,by rw[An];omega,H.o.2.ge,H.o.2.done p.o (by rw[An];omega) (.inr (.inl (by rw[An];omega))),F.o.kept (below_drewN (Below.refl _ wr) _) nlr,Dq E.o _⟩
   ·go_roundw
    case rel=>exact⟨d-1,O+nth j (n-1),by go_num,by go_num,H.o.2,F.o.kept (below_drewN (Below.refl _ wr) _) nlr,Dq E.o _⟩
    have:=H.o.1;simp[intOf];omega
   go_roundw
   case rel=>exact⟨d-1,O+nth j (n-1),by go_num,by go_num,H.o.2,F.o.kept (below_drewN (Below.refl _ wr) _) nlr,Dq E.o _⟩
   have:=H.o.1;simp[intOf];omega
  have e3:d<BB:=by omega
  have a1:=qh e3;clear e3;rw[An]at hA;have f1:decide ((1000000000:Int)<=(d:Int))=false:=by simp;omega
  by_cases b5:2<=n
  ·have g1:=c8 b5;have g3:=c9 b5;clear c8 c9;have J:((d:Int)*((nth j (n-2):Nat):Int))=((d*nth j (n-2):Nat):Int):=by simp
   obtain⟨P,hP⟩:=exq<|d*nth j (n-2);have h3:(P:Int)<=999999998000000001:=by
    have:d*nth j (n-2)<=999999999*999999999:=Nat.mul_le_mul (by omega) (by omega);omega
   have hw:IntKind.u64.wrap ((d:Int)*((nth j (n-2):Nat):Int))=(P:Int):=by
    rw[J,<-hP];exact IntWalk.u64_in _ ⟨by omega,by omega⟩
   replace hP:=qh hP;clear J;have f3:(1:Int)<(n:Int):=by omega
   by_cases h7:O<1000000000
   ·have d1:(O:Int)<1000000000:=by omega
    by_cases ht:O*1000000000+nth z (n-2)<P
    ·have a3:=HE.o.back p.o (.inr ⟨b5,by rw[An,<-hP.o];exact ht⟩);have f5:(O:Int)*1000000000+((nth z (n-2):Nat):Int)<(P:Int):=by omega
     have b6:(1:Int)<=(d:Int):=by have:=a3.1;omega
     have H:=qh a3;clear a3 ht
     go_wp2_with fail
     go_quiet (fail)
     clear f5 hw h3;have i6:(d:Int)<=999999999:=by omega
     clear hA f1 h7 d1 f7 f9 g1 g3 b5 f3
     go_wp2_with fail
     ·have b1:(1000000000:Int)<=(O:Int)+((nth j (n-1):Nat):Int):=by assumption
      go_meet
      refine⟨d-1,O+nth j (n-1),by go_num,by go_num,by rw[An];omega,H.o.2.ge,H.o.2.done p.o (by rw[An];omega) (.inr (.inl (by rw[An];omega))),F.o.kept (below_drewN (Below.refl _ wr) _) nlr,Dq E.o _⟩
     go_roundw
     case rel=>exact⟨d-1,O+nth j (n-1),by go_num,by go_num,H.o.2,F.o.kept (below_drewN (Below.refl _ wr) _) nlr,Dq E.o _⟩
     have:=H.o.1;simp[intOf];omega
    have f5:decide ((O:Int)*1000000000+((nth z (n-2):Nat):Int)<(P:Int))=false:=by simp;omega
    replace ht:=qh ht
    go_wp2_with fail
    go_quiet (fail)
    go_wp2_with fail
    go_meet
    exact⟨d,O,rfl,rfl,a1.o,HE.o.ge,HE.o.done p.o a1.o (.inr (.inr ⟨b5,by have:=ht.o;rw[An,<-hP.o];omega⟩)),F.o.kept (below_drewN (Below.refl _ wr) _) nlr,Dq E.o _⟩
   have d1:decide ((O:Int)<1000000000)=false:=by simp;omega
   go_wp2_with fail
   go_quiet (fail)
   go_wp2_with fail
   go_meet
   exact⟨d,O,rfl,rfl,a1.o,HE.o.ge,HE.o.done p.o a1.o (.inr (.inl (by rw[An];omega))),F.o.kept (below_drewN (Below.refl _ wr) _) nlr,Dq E.o _⟩
  have f3:decide ((1:Int)<(n:Int))=false:=by simp;omega
  clear c8 c9
  go_wp2_with fail
  go_quiet (fail)
  go_wp2_with fail
  go_meet
  exact⟨d,O,rfl,rfl,a1.o,HE.o.ge,HE.o.done p.o a1.o (.inl (by omega)),F.o.kept (below_drewN (Below.refl _ wr) _) nlr,Dq E.o _⟩
 case rest =>
  obtain⟨d,O,rfl,rfl,b6,c7,d9,o,m⟩:=hcut;have e3:(d:Int)<=999999999:=by rw[An]at b6;omega
  have g9:=qh b6;clear b6;replace c7:=qh c7;replace d9:=qh d9;have g8:=qh o;clear o;have g5:=qh m;clear m;clear e7 e5 f8 d3
  go_wp2_with fail
  go_loopw [9,10,88] (λb c i wr=>∃(k S Y:Nat) (D:List Nat),k<=n+1/\i=.int .i64 (k:Int)/\c=.int .u64 (S:Int)/\b=.int .u64 (Y:Int)/\SubIn z j D d k S Y/\(k=n+1->S=0)/\
    Own wr B 179 .u64 (.slice (some (Ad g 0)) N cap) (A++D++C)/\w.grownBy wr (some g)) (λ_ _ i _=>n+1-(intOf i).toNat)
  case atStart=>exact⟨0,0,0,z,Nat.zero_le _,rfl,rfl,rfl,SubIn.start z j d p.o.su,λ_=>rfl,g8.o,g5.o⟩
  obtain⟨k,S,Y,D,hk,rfl,rfl,rfl,K,b3,o,m⟩:=hrel;have u:=K.len;rw[s.o]at u;have b0:(A++D++C).length=N:=by rw[<-hN.o,List.length_append,List.length_append,List.length_append,List.length_append,u,s.o]
  have W:=qh u;clear u;have a6:=qh b0;clear b0;have e6:=qh b3;clear b3;have R:=qh K;clear K;have Z:=qh o;clear o;have a5:=qh m;clear m;by_cases d8:k<n+1
  ·have h5:(S:Int)<=999999999:=by have:=R.o.carry;rw[An]at this;omega
   have i8:(Y:Int)<=1:=by have:=R.o.borrow;omega
   have h8:((nth z k:Nat):Int)<=999999999:=by have:=p.o.su k;rw[An]at this;omega
   have uc:wr.cell? (Ad g (A.length+k))=some (.int .u64 ((nth z k:Nat):Int)):=by
    have h:=Z.o.cell a6.o (A.length+k) (by rw[<-a6.o,List.length_append,List.length_append,W.o];omega)
    rwa [Gg _ _ _ _ (by rw[W.o];omega),R.o.same k nlr]at h
   have uf:wr.frozen? (Ad g (A.length+k))=false:=Z.o.free a6.o _;have L:=R.o.step p.o.sv g9.o (by rw[s.o];exact d8);have a2:=qh L;clear L;by_cases d6:k<n
   ·have vc:wr.cell? (Ad bv (ov+k))=some (.int .u64 ((nth j k:Nat):Int)):=a5.o.cell (hv.o k d6) (by simpa using b9);have J:((d:Int)*((nth j k:Nat):Int))=((d*nth j k:Nat):Int):=by simp
    have i4:(d:Int)*((nth j k:Nat):Int)<=999999998000000001:=by
     have h2:=p.o.sv k;rw[An]at h2;have:d*nth j k<=999999999*999999999:=Nat.mul_le_mul (by omega) (by omega);rw[J];omega
    have i5:0<=(d:Int)*((nth j k:Nat):Int):=by rw[J];omega
    have g7:=qh J;clear J;go_wp2;go_roundw
    case rel =>
     have h6:dSub (nth z k) S Y (d*nth j k)<=1999999999:=by unfold dSub;omega
     rw[g7.o,MP R.o.borrow];have l:=Z.o.set a6.o (A.length+k) (dSub (nth z k) S Y (d*nth j k) % 1000000000);rw[set_mid _ _ _ _ _ (by rw[W.o];exact d8)]at l;exact⟨k+1,_,_,_,by omega,by go_num,by go_num,by go_num,a2.o,λh=>by omega,l,Fb a5.o _ _⟩
    simp[intOf];omega
   have I:k=n:=by omega
   have b7:nth j k=0:=AT j k (by have:=p.o.lv;omega);have d7:(S+d*nth j k) / 1000000000=0:=by
    have h:=R.o;rw[I]at h ⊢;exact h.last p.o.lv
   have g6:=qh I;clear I;have e9:=qh b7;clear b7;replace d7:=qh d7;go_wp2;go_roundw
   case rel =>
    have e0:(S:Int)=(S:Int)+((d*nth j k:Nat):Int):=by rw[e9.o];simp
    have e1:(S:Int) / 1000000000=((S+d*nth j k) / 1000000000:Nat):=by rw[e9.o,Nat.mul_zero];omega
    have e2:((nth z k:Nat):Int)+1000000000-(S:Int) % 1000000000-(Y:Int)=((dSub (nth z k) S Y (d*nth j k):Nat):Int):=by
     rw[<-MP R.o.borrow,<-e0]
    have h6:dSub (nth z k) S Y (d*nth j k)<=1999999999:=by unfold dSub;omega
    rw[e1,e2];have l:=Z.o.set a6.o (A.length+k) (dSub (nth z k) S Y (d*nth j k) % 1000000000);rw[set_mid _ _ _ _ _ (by rw[W.o];exact d8)]at l;exact⟨k+1,_,_,_,by omega,by go_num,rfl,by go_num,a2.o,λ_=>d7.o,l,Fb a5.o _ _⟩
   simp[intOf];omega
  have I:k=n+1:=by omega
  have f2:=e6.o I;have K:=R.o;rw[I,f2]at K;have T:=qh K;clear K;clear R e6 I f2
  rcases Nat.eq_zero_or_pos Y with h0|h0
  ·have h4:(((Y:Nat):Int)==0)=true:=by rw[beq_iff_eq];omega
   have Q:d=bval z / bval j/\bval D=bval z % bval j:=by
    have h:=T.o;rw[h0]at h;exact h.fits p.o c7.o
   have HF:=qh Q;clear Q;have g4:=qh h0;clear h0;go_wp2;go_ret;exact⟨D,BK (by rw[<-HF.o.1]),by rw[W.o,s.o],T.o.small,HF.o.2,Z.o,a5.o⟩
  have h4:(((Y:Nat):Int)==0)=false:=by rw[beq_eq_false_iff_ne];omega
  have b1:Y=1:=by have:=T.o.borrow;omega
  have K:=T.o;rw[b1]at K;have d4:=qh K;clear K T;have g4:=qh b1;clear b1 h0;obtain⟨wo,rfl⟩:∃wo:World,wo=wr:=⟨_,rfl⟩
  go_wp2_with fail
  go_loopw [10,129] (λc i wr=>∃(k S:Nat) (U:List Nat),k<=n+1/\i=.int .i64 (k:Int)/\c=.int .u64 (S:Int)/\AddIn D j U k S/\
   Own wr B 179 .u64 (.slice (some (Ad g 0)) N cap) (A++U++C)/\w.grownBy wr (some g)) (λ_ i _=>n+1-(intOf i).toNat)
  case atStart=>exact⟨0,0,D,Nat.zero_le _,rfl,rfl,AddIn.start D j d4.o.small,Z.o,a5.o⟩
  obtain⟨G,d5,U,i9,rfl,rfl,X,o,m⟩:=hrel;have u:=X.len;rw[W.o]at u;have b0:(A++U++C).length=N:=by rw[<-hN.o,List.length_append,List.length_append,List.length_append,List.length_append,u,s.o]
  have a9:=qh u;clear u;have a7:=qh b0;clear b0;have a4:=qh X;clear X;have a8:=qh o;clear o;have b8:=qh m;clear m;by_cases b4:G<n+1
  ·have h5:(d5:Int)<=1:=by have:=a4.o.carry;omega
   have h8:((nth D G:Nat):Int)<=999999999:=by have:=d4.o.small G;rw[An]at this;omega
   have g0:((nth j G:Nat):Int)<=999999999:=by have:=p.o.sv G;rw[An]at this;omega
   have uc:wr.cell? (Ad g (A.length+G))=some (.int .u64 ((nth D G:Nat):Int)):=by
    have h:=a8.o.cell a7.o (A.length+G) (by rw[<-a7.o,List.length_append,List.length_append,a9.o];omega)
    rwa [Gg _ _ _ _ (by rw[a9.o];omega),a4.o.same G nlr]at h
   have uf:wr.frozen? (Ad g (A.length+G))=false:=a8.o.free a7.o _;have L:=a4.o.step p.o.sv (by rw[W.o];exact b4);have a2:=qh L;clear L;by_cases d6:G<n
   ·have vc:wr.cell? (Ad bv (ov+G))=some (.int .u64 ((nth j G:Nat):Int)):=b8.o.cell (hv.o G d6) (by simpa using b9);go_wp2;go_roundw
    case rel =>
     have l:=a8.o.set a7.o (A.length+G) ((nth D G+d5+nth j G) % 1000000000);rw[set_mid _ _ _ _ _ (by rw[a9.o];exact b4)]at l;exact⟨G+1,_,_,by omega,by go_num,by go_num,a2.o,l,Fb b8.o _ _⟩
    simp[intOf];omega
   have b7:nth j G=0:=AT j G (by have:=p.o.lv;omega);have e4:=a2.o;rw[b7,Nat.add_zero]at e4;have e8:=qh e4;clear e4 a2 b7 g0;go_wp2;go_roundw
   case rel =>
    have l:=a8.o.set a7.o (A.length+G) ((nth D G+d5) % 1000000000);rw[set_mid _ _ _ _ _ (by rw[a9.o];exact b4)]at l;exact⟨G+1,_,_,by omega,by go_num,by go_num,e8.o,l,Fb b8.o _ _⟩
   simp[intOf];omega
  have I:G=n+1:=by omega
  have X:=a4.o;rw[I]at X;have Q:=X.fits p.o d4.o c7.o d9.o;have b6:(1:Int)<=(d:Int):=by have:=Q.1;omega
  have HF:=qh Q;clear Q X;have g6:=qh I;clear I;go_wp2;go_ret;exact⟨U,BK (by rw[<-HF.o.2.1];omega),by rw[a9.o,s.o],a4.o.small,HF.o.2.2,a8.o,b8.o⟩
variable{L L0:List Nat}{a k m:Nat}
def GV(xs:List Nat)(a:Nat)(h:a<xs.length):bval (xs.drop a)=nth xs a+BB*bval (xs.drop (a+1)):=by
 rw[List.drop_eq_getElem_cons h];simp only[bval];rw[Db xs a h]
theorem Qm{xs:List Nat}(h:Small xs)(k:Nat):Small (xs.drop k):=λi=>by rw[Gf];exact h _
def OB(h:L.take k=L0.take k)(c:a<k):nth L a=nth L0 a:=by
 rw[<-Fo L k a c,h,Fo _ _ _ c]
structure DvInv(L0 vs L qs:List Nat)(n a:Nat):Prop where
 len:L.length=L0.length
 ql:qs.length+n=L0.length
 ale:a<=qs.length
 small:Small L
 sq:Small qs
 low:L.take a=L0.take a
 rem:bval (L.drop a)<bval vs
 val:bval (L0.drop a)=bval (qs.drop a)*bval vs+bval (L.drop a)
structure Div0(L0 vs:List Nat)(n:Nat):Prop where
 s0:Small L0
 sv:Small vs
 n1:1<=n
 lv:vs.length=n
 v1:1<=nth vs (n-1)
theorem DvInv.start(h:Div0 L0 c n)(hn:n<=L0.length)(d:bval (L0.drop (L0.length-n))<bval c):
  DvInv L0 c L0 (List.replicate (L0.length-n) 0) n (L0.length-n):=by
 refine⟨rfl,by simp;omega,by simp,h.s0,Qn _,rfl,d,?_⟩;have e:(List.replicate (L0.length-n) 0).drop (L0.length-n)=[]:=List.drop_of_length_le (by simp);rw[e];simp[bval]
theorem DvInv.cut(L:List Nat)(n a:Nat):L=L.take a++(L.drop a).take (n+1)++L.drop (a+(n+1)):=by
 rw[List.append_assoc,show L.drop (a+(n+1))=(L.drop a).drop (n+1) by rw[List.drop_drop],List.take_append_drop,List.take_append_drop]
theorem DvInv.seg_len(h:DvInv L0 d L c n (a+1)):((L.drop a).take (n+1)).length=n+1/\(L.take a).length=a:=by
 have:=h.len;have:=h.ql;have:=h.ale;rw[List.length_take,List.length_drop,List.length_take];omega
theorem DvInv.top(h:DvInv L0 c L g n (a+1)):bval (L.drop a)<bval c*BB:=by
 have:=h.len;have:=h.ql;have:=h.ale;rw[GV L a (by omega)];have i:=h.small a;have d:BB*(bval (L.drop (a+1))+1)<=BB*bval c:=Nat.mul_le_mul_left _ h.rem;rw[Nat.mul_add,Nat.mul_comm BB (bval c)]at d;omega
def DvInv.high{k:List Nat}(i:Div0 L0 g n)(h:DvInv L0 g L k n (a+1)):bval (L.drop a)=bval ((L.drop a).take (n+1))/\bval (L.drop (a+(n+1)))=0:=by
 have d:=EU ((L.drop a).take (n+1)) ((L.drop a).drop (n+1));rw[List.take_append_drop,List.drop_drop,h.seg_len.1]at d;have m:=h.top;have j:=Ce i.sv;rw[i.lv]at j;have l:bval g*BB<BB ^ (n+1):=by rw[Nat.pow_succ];exact Nat.mul_lt_mul_of_pos_right j AO
 rcases Nat.eq_zero_or_pos (bval (L.drop (a+(n+1)))) with c|c
 ·rw[c,Nat.mul_zero,Nat.add_zero]at d;exact⟨d,c⟩
 have:BB ^ (n+1)*1<=BB ^ (n+1)*bval (L.drop (a+(n+1))):=Nat.mul_le_mul_left _ c;omega
def DvInv.divIn(c:Div0 L0 d n)(h:DvInv L0 d L g n (a+1)):DivIn ((L.drop a).take (n+1)) d n :=
 ⟨EI (Qm h.small a) _,c.sv,c.n1,h.seg_len.1,c.lv,c.v1,by rw[<-(h.high c).1];exact h.top⟩
def DvInv.step{k:List Nat}(m:Div0 L0 d n)(h:DvInv L0 d L k n (a+1))(C:c.length=n+1)(E:Small c)
  (A:bval c=bval ((L.drop a).take (n+1)) % bval d) :
  DvInv L0 d (L.take a++c++L.drop (a+(n+1))) (k.set a (bval ((L.drop a).take (n+1)) / bval d)) n a:=by
 have u:=h.divIn m;have z:=h.high m;have j:=h.seg_len;have F:=h.len;have G:=h.ql;have H:=h.ale;have g:(L.take a++c++L.drop (a+(n+1))).drop a=c++L.drop (a+(n+1)):=by
  rw[List.append_assoc];have:=List.drop_left (l₁:=L.take a) (l₂:=c++L.drop (a+(n+1)))
  rwa [j.2]at this
 have B:bval ((L.take a++c++L.drop (a+(n+1))).drop a)=bval c:=by rw[g,EU,z.2];simp
 have D:(k.set a (bval ((L.drop a).take (n+1)) / bval d)).drop a=(bval ((L.drop a).take (n+1)) / bval d)::k.drop (a+1):=by
  rw[List.drop_eq_getElem_cons (by simp;omega),List.drop_set,ifp (by omega)];simp
 refine⟨by simp[C];omega,by simp;omega,by simp;omega,?_,GA h.sq _ _ u.qlt,?_,?_,?_⟩
 ·intro i;by_cases o:i<a
  ·rw[List.append_assoc,Gd _ _ _ (by omega)];exact EI h.small a i
  rw[List.append_assoc,Ge _ _ _ (by omega)];by_cases p:i-(L.take a).length<c.length
  ·rw[Gd _ _ _ p];exact E _
  rw[Ge _ _ _ (by omega)];exact Qm h.small _ _
 ·have e:(L.take a++c++L.drop (a+(n+1))).take a=L.take a:=by
   rw[List.append_assoc];have:=List.take_left (l₁:=L.take a) (l₂:=c++L.drop (a+(n+1)))
   rwa [j.2]at this
  rw[e];have:=congrArg (List.take a) h.low;rw[List.take_take,List.take_take,Nat.min_eq_left (by omega)]at this;exact this
 ·rw[B,A];exact Nat.mod_lt _ u.vpos'
 rw[B,D,GV L0 a (by omega),h.val];simp only[bval];have o:=GV L a (by omega);rw[z.1]at o;have p:nth L a=nth L0 a:=OB h.low (by omega);have s:=Nat.div_add_mod (bval ((L.drop a).take (n+1))) (bval d);rw[<-A]at s;generalize bval ((L.drop a).take (n+1)) / bval d=qd at *;generalize bval ((L.drop a).take (n+1))=U at *;rw[Nat.mul_comm (bval d) qd]at s;rw[Nat.add_mul,Nat.mul_add,<-Nat.mul_assoc];omega
def DvInv.done{i:List Nat}(h:DvInv L0 d L i n 0):bval i=bval L0 / bval d/\bval L=bval L0 % bval d:=by
 have g:=h.val;have c:=h.rem;simp only[List.drop_zero]at g c;rw[g,Nat.add_comm,Nat.mul_comm];exact⟨by rw[Nat.add_mul_div_left _ _ (by omega),Nat.div_eq_of_lt c,Nat.zero_add],by rw[Nat.add_mul_mod_self_left,Nat.mod_eq_of_lt c]⟩
structure DnInv(r0 L:List Nat)(k a lf:Nat):Prop where
 len:L.length=r0.length
 ale:a<=r0.length
 small:Small L
 left:lf<k
 low:L.take a=r0.take a
 val:bval (r0.drop a)=k*bval (L.drop a)+lf
theorem DnInv.start(d:1<=k)(g:Small c):DnInv c c k c.length 0 :=
 ⟨rfl,nlr,g,d,rfl,by rw[List.drop_length];simp[bval]⟩
def DnInv.bound{c:Nat}(h:DnInv d L k (a+1) c)(j:Small d):c*1000000000+nth d a<k*1000000000:=by
 have g:=j a;have i:=h.left;rw[An]at g;have:(c+1)*1000000000<=k*1000000000:=Nat.mul_le_mul_right _ i;omega
def DnInv.step{d:Nat}(h:DnInv c L k (a+1) d)(g:1<=k)(l:Small c):
  DnInv c (L.set a ((d*1000000000+nth c a) / k)) k a ((d*1000000000+nth c a) % k):=by
 have hb:=h.bound l;have i:=h.len;have o:=h.ale;have m:(d*1000000000+nth c a) / k<BB:=by
  rw[An];exact Nat.div_lt_of_lt_mul hb
 refine⟨by simp;exact i,by omega,GA h.small _ _ m,Nat.mod_lt _ g,?_,?_⟩
 ·rw[take_set];have:=congrArg (List.take a) h.low;rw[List.take_take,List.take_take,Nat.min_eq_left (by omega)]at this;exact this
 have j:(L.set a ((d*1000000000+nth c a) / k)).drop a=((d*1000000000+nth c a) / k)::L.drop (a+1):=by
  rw[List.drop_eq_getElem_cons (by simp;omega),List.drop_set,ifp (by omega)];simp
 rw[j,GV c a (by omega),h.val];simp only[bval];have p:=Nat.div_add_mod (d*1000000000+nth c a) k;generalize (d*1000000000+nth c a) / k=qd at *;rw[Nat.mul_add,Nat.mul_add,Nat.mul_left_comm BB k];have:BB*d=d*1000000000:=by rw[An,Nat.mul_comm]
 omega
def DnInv.done{g:Nat}(h:DnInv d L k 0 g):bval L=bval d / k:=by
 have c:=h.val;simp only[List.drop_zero]at c;rw[c,Nat.add_comm,Nat.add_mul_div_left _ _ (Nat.lt_of_le_of_lt nzl h.left),Nat.div_eq_of_lt h.left,Nat.zero_add]
theorem UY{d:Nat}(i:d≠0)(j:k=1000000000 / (nth (toB d) ((toB d).length-1)+1)):
  1<=k/\k<BB/\(toB (d*k)).length=(toB d).length:=by
 have l:=El i;have s:=Ba d ((toB d).length-1);have u:=IH i;have m:=GW (xs:=toB d) rfl l;rw[Bb]at m;have z:=GF (Ba d) ((toB d).length-1) (by omega);generalize hx:nth (toB d) ((toB d).length-1)=x at *;have c:1<=k:=by rw[j,Nat.le_div_iff_mul_le (by omega)];rw[An]at s;omega
 have h:k*(x+1)<=BB:=by rw[j,An];exact Nat.div_mul_le_self _ _
 have g:k<BB:=by
  have:k*2<=k*(x+1):=Nat.mul_le_mul_left _ (by omega);omega
 refine⟨c,g,?_⟩
 apply Nat.le_antisymm
 ·apply GH
  have o:d<BB ^ ((toB d).length-1)*(x+1):=by rw[Nat.mul_add];omega
  have A:d*k<BB ^ ((toB d).length-1)*(x+1)*k:=Nat.mul_lt_mul_of_pos_right o c;have p:BB ^ ((toB d).length-1)*((x+1)*k)<=BB ^ ((toB d).length-1)*BB:=Nat.mul_le_mul_left _ (by rw[Nat.mul_comm];exact h);rw[<-Nat.mul_assoc,<-OZ l]at p;omega
 exact Ek (by
             have:d*1<=d*k:=Nat.mul_le_mul_left _ c;omega)
def Xf(g:k<BB)(c:1<=k):(toB m).length<=(toB (m*k)).length/\(toB (m*k)).length<=(toB m).length+1:=by
 refine⟨Ek (by
              have:m*1<=m*k:=Nat.mul_le_mul_left _ c;omega),GH ?_⟩
 have d:=Ce<|Ba m;rw[Bb]at d;rw[Nat.pow_succ];exact Nat.mul_lt_mul_of_lt_of_le d (by omega) AO
theorem Mr(xs:List Nat):bval (xs++[0])=bval xs:=by rw[EV];simp
def SS(xs:List Nat)(j:Nat)(h:Small xs):bval (xs.drop j)=bval xs / BB ^ j:=by
 by_cases c:j<=xs.length
 ·have:=EU (xs.take j) (xs.drop j);rw[List.take_append_drop,List.length_take,Nat.min_eq_left c]at this;rw[this,Nat.add_mul_div_left _ _ (Nat.pow_pos AO),Nat.div_eq_of_lt (GF h j c),Nat.zero_add]
 rw[List.drop_of_length_le (by omega),Nat.div_eq_of_lt]
 ·rfl
 exact Nat.lt_of_lt_of_le (Ce h) (Nat.pow_le_pow_right AO (by omega))
def Vd{d:Nat}(h:d≠0)(c:1<=k)(o:(toB d).length<=(toB m).length)(p:Small L0)(s:bval L0=m*k)(l:L0.length=(toB m).length+1):
  bval (L0.drop (L0.length-(toB d).length))<d*k:=by
 rw[SS _ _ p,s,l,Nat.div_lt_iff_lt_mul (Nat.pow_pos AO)];have i:=Ce<|Ba m;rw[Bb]at i;have j:=ZQ h;have z:=El h;have e:BB ^ (toB m).length=BB ^ ((toB d).length-1)*BB ^ ((toB m).length+1-(toB d).length):=by rw[<-Nat.pow_add];congr 1;omega
 have u:BB ^ ((toB d).length-1)*BB ^ ((toB m).length+1-(toB d).length)<=d*BB ^ ((toB m).length+1-(toB d).length):=Nat.mul_le_mul_right _ j;have g:m*k<d*BB ^ ((toB m).length+1-(toB d).length)*k:=Nat.mul_lt_mul_of_pos_right (by omega) c;rw[Nat.mul_right_comm]at g;exact g
variable{B:Nat}{e:TypeId}{k:IntKind}
def DivEnd(m d:Nat)(w:World)(e:Ending)(w':World):Prop :=
 ∃vq vr,e=.returned (.tuple #[vq,vr])/\Sl w' .u64 vq (toB (m / d))/\Sl w' .u64 vr (toB (m % d))/\Below w.heap.size w w'
def Own.keptBy{d:World}{g n cap:Nat}{row:Option Nat}(h:Own w B e k (.slice (some (Ad g 0)) n cap) L)(i:w.grownBy d row)(c:some g≠row):Own d B e k (.slice (some (Ad g 0)) n cap) L :=
 World.ownsRow.kept h i (.inr (by simpa [Value.ownBlock] using c))
theorem Own.some{v:Value}(h:Own w B e k v L)(hn:1<=L.length):∃g cap,v=.slice (.some (Ad g 0)) L.length cap/\B<=g/\g<w.heap.size/\L.length<=cap/\cap<=maxLen:=by
 rcases h.2 with⟨_,o⟩|⟨g,cap,c,m,d,l,i,j,_⟩
 ·omega
 exact⟨g,cap,m,d,(Array.getElem?_eq_some_iff.1 l).1,i,j⟩
def TY(i j:Value)(m d:Nat)(w:World)(h:Sl w .u64 i (toB m))(l:Sl w .u64 j (toB d))(g:m<d):
  Calls prog 223 #[i,j] w (DivEnd m d w):=by
 have c:=FN i j m d w h l;unfold CmpEnd at c;rw[Cw g]at c;replace c:=qh c;replace h:=qh h;clear l;replace g:=qh g
 go_enter func223,ntmps223
 go_wp2_with fail
 refine nxa c.o λo k=>?_;go_wp2;go_ret2;refine⟨_,_,rfl,?_,?_,k.o⟩
 ·rw[Nat.div_eq_of_lt g.o];exact Sl.nil _ _
 rw[Nat.mod_eq_of_lt g.o];exact h.o.below k.o nlr
set_option maxRecDepth 100000 in
theorem TX(vx vy:Value)(m d:Nat)(w:World)(hx:Sl w .u64 vx (toB m))(hy:Sl w .u64 vy (toB d))(hd:d≠0)(p0:d<=m)(lx:(toB m).length<=50000):
  Calls prog 223 #[vx,vy] w (DivEnd m d w):=by
 have d2:=FN vx vy m d w hx hy;unfold CmpEnd at d2;have o8:∃q:Int,cmpN m d=q/\0<=q:=by
  rcases Nat.lt_or_ge d m with h|h
  ·exact⟨1,CW h,by omega⟩
  exact⟨0,DZ (by omega),by omega⟩
 obtain⟨q0,hq,v2⟩:=o8;rw[hq]at d2;clear hq;have g0:=UY hd rfl;obtain⟨k,hk⟩:∃k,k=1000000000 / (nth (toB d) ((toB d).length-1)+1):=⟨_,rfl⟩;rw[<-hk]at g0;obtain⟨a9,W,b6⟩:=g0;have d4:=El hd;have i2:(toB d).length<=(toB m).length:=Ek p0;have d9:=Xf (m:=m) W a9;have g4:=Ba d ((toB d).length-1);rw[An]at g4;obtain⟨ax,cx,rfl⟩:=hx.shape;replace hx:=qh hx;have HY:=qh hy;obtain⟨ay,cy,o4,oy,rfl,o7,r3,k0,j6,a1⟩:=hy.open;obtain rfl:=o7 d4;have j7:=j6 d4;have j1:=a1 ((toB d).length-1) (by omega);have g1:(((toB d).length:Int)-1)<((toB d).length:Int):=by omega
 have k7:0<=(((toB d).length:Int)-1):=by omega
 unfold maxLen at k0;replace d2:=qh d2;replace hk:=qh hk;replace b6:=qh b6;replace W:=qh W;replace hd:=qh hd;clear j6 a1 hy
 go_enter func223,ntmps223
 go_wp2_with fail
 refine d2.o.mono ?_;rintro e w1⟨rfl,T⟩;have j3:=(T.cell (p:=(Ad o4 (oy+((toB d).length-1)))) j7).trans j1;replace T:=qh T;have l7:=T.o.size;clear j1
 go_wp2_with fail
 have ek:(1000000000:Int) / (((nth (toB d) ((toB d).length-1):Nat):Int)+1)=(k:Int):=by rw[hk.o];simp
 rw[ek];clear ek;refine(PZ _ m k w1 W.o (hx.o.below T.o nlr) (by omega)).mono ?_;rintro e w2⟨vu,rfl,Q,c9⟩;have HU:=qh Q;clear Q;replace c9:=qh c9;have v3:=c9.o.size
 go_wp2_with fail
 refine(PZ _ d k w2 W.o ((HY.o.below T.o nlr).below c9.o nlr) (by omega)).mono ?_;rintro e w3⟨vv,rfl,N,d0⟩;replace d0:=qh d0;have v4:=d0.o.size;have i4:=(HU.o.kept d0.o nlr).mono l7;obtain⟨gv,cv,rfl,r8,r9,f9,j9⟩:=N.some (by rw[b6.o];exact d4);have a5:=N.mono (show w.heap.size<=w2.heap.size by omega);rw[b6.o]at f9;rw[b6.o];obtain⟨gu,cu,q7,r6,r7,r2,j8⟩:=HU.o.some (by omega);obtain rfl:=q7;replace a5:=qh a5;clear N;replace i4:=qh i4;have n7:Hd (gu≠gv):=qh (by omega);have m4:=qh<|T.o.trans ((c9.o.mono l7).trans (d0.o.mono (by omega)));obtain⟨i0,i5,l8,i6,l9⟩:=info_parts FY;obtain⟨vs,O⟩:=exq<|toB (d*k);rw[<-O]at a5;replace O:=qh O;obtain⟨n,hn⟩:∃n,n=(toB d).length:=⟨_,rfl⟩;rw[<-hn]at d4 i2 g4 g1 k7 f9;have HN:=qh hn;have e8:Hd (vs.length=n):=qh (by rw[O.o,b6.o];exact hn.symm);rw[<-hn];clear hn j3 g1 k7;obtain⟨b7,b0⟩:∃l,l=(toB m).length:=⟨_,rfl⟩;rw[<-b0]at lx i2 d9;rw[<-b0];replace b0:=qh b0;unfold maxLen at j9 j8
 go_wp2_with fail
 go_loopw [8] (λv wr=>∃(g o:Nat) (L:List Nat),v=.slice (some (Ad g 0)) L.length o/\Own wr w.heap.size 179 .u64 (.slice (some (Ad g 0)) L.length o) L/\g≠gv/\Small L/\bval L=m*k/\b7<=L.length/\L.length<=b7+1/\
   Own wr w.heap.size 179 .u64 (.slice (some (Ad gv 0)) n cv) vs/\Below w.heap.size w wr) (λv _=>b7+1-lenV v)
 case atStart =>
  refine⟨gu,cu,toB (m*k),rfl,i4.o,n7.o,Ba _,Bb _,d9.1,d9.2,?_,m4.o⟩;have:=a5.o
  rwa [e8.o]at this
 obtain⟨g,o,L,rfl,Q,b1,b3,U,t9,v0,N,P⟩:=hrel;have HO:=qh Q;clear Q;replace b1:=qh b1;replace b3:=qh b3;replace U:=qh U;have c8:=qh N;clear N;have b8:=qh P;clear P;by_cases p6:L.length<=b7
 ·have e5:=b8.o.size;have f2:wr.ownsRow w.heap.size 179 1 (.slice (some (Ad g 0)) L.length o) L.length (vals .u64 L):=HO.o;replace f2:=qh f2
  rcases Nat.lt_or_ge o (L.length+1) with d1|d1
  ·go_wp2_with (at_builtin;refine wpList_append_grows _ rfl (.tmp 40) (.tmp 41) 199 rfl 179 i0 (.int .u64 0) 1 8 underlying199 i5 l8 i6 l9 rfl (by decide) (some (Ad g 0)) L.length o (vals .u64 L) rfl (by intro h;cases h) (by rw[Ro];omega) (λb hb=>by cases hb;exact World.ownsRow.cells (World.ownsRow.alloc f2.o _) rfl) (Ad wr.heap.size 0) 1 1 [.int .u64 0] rfl rfl (cell_one_new _ _ _) (one_cell _ _) d1 (by unfold maxLen;omega) (by omega) ?_;intro v5 w5 C u)
   have b2:Own w5 (wr.heap.size+1) 179 .u64 v5 (L++[0]):=by
    unfold Own;rw[<-Lz,List.length_append];have e:(wr.alloc (.cells #[.int .u64 0] 179)).heap.size=wr.heap.size+1:=by simp
    rw[e]at C;exact C
   obtain⟨g5,j0,rfl,r4,r5,_,_⟩:=b2.some (by simp);have a8:Below wr.heap.size wr w5:=((Below.refl _ wr).alloc nlr _).grown u (by simp) (by simp);have e4:=c8.o.kept a8 nlr;have s9:=c8.o.base.2;have H5:=qh (b2.mono (show w.heap.size<=wr.heap.size+1 by omega));clear b2 C u;have h0:=qh e4;clear e4;have g6:=qh a8;clear a8;have i8:Hd (g5≠gv):=qh (by omega);go_wp2;go_roundw
   case rel=>exact⟨g5,j0,L++[0],rfl,H5.o,i8.o,Iy b3.o AO,by rw[Mr];exact U.o,by simp;omega,by simp;omega,h0.o,b8.o.trans (g6.o.mono e5)⟩
   simp[NQ];omega
  go_wp2_with (at_builtin;refine wpList_append_fits _ rfl (.tmp 40) (.tmp 41) 199 rfl w.heap.size 179 i0 1 underlying199 i5 i6 g L.length o (vals .u64 L) rfl (World.ownsRow.alloc f2.o _) (Ad wr.heap.size 0) 1 1 [.int .u64 0] rfl rfl (cell_one_new _ _ _) (one_cell _ _) d1 ?_;intro w5 C u)
  have b2:Own w5 w.heap.size 179 .u64 (.slice (some (Ad g 0)) (L.length+1) o) (L++[0]):=by
   unfold Own;rw[<-Lz,List.length_append];exact C
  have h8:=HO.o.base.1;have a8:Below w.heap.size w w5:=(b8.o.alloc e5 _).grown u (by simp;omega) (λq hq=>by cases hq;exact h8);have e4:Own w5 w.heap.size 179 .u64 (.slice (some (Ad gv 0)) n cv) vs :=
   Own.keptBy (c8.o.kept ((Below.refl wr.heap.size wr).alloc nlr (.cells #[.int .u64 0] 179)) nlr) u (by have:=b1.o;simp;omega)
  have H5:=qh b2;clear b2 C u;have h0:=qh e4;clear e4;have g6:=qh a8;clear a8;go_wp2;go_roundw
  case rel=>exact⟨g,o,L++[0],by simp,by rw[List.length_append];exact H5.o,b1.o,Iy b3.o AO,by rw[Mr];exact U.o,by simp;omega,by simp;omega,h0.o,g6.o⟩
  simp[NQ];omega
 have h4:L.length=b7+1:=by omega
 have e5:=b8.o.size;have k2:=HO.o.base;have k3:=c8.o.base;obtain⟨s,f1⟩:=exq<|L.length-n;obtain⟨wm,h9,a6,k5⟩:=run_make_full wr w.heap.size 199 179 i0 (.int .u64 0) 1 underlying199 i5 l8 i6 .i64 .i64 (L.length-n) (by rw[l9];omega) (by unfold maxLen;omega) e5;rw[show ((L.length-n:Nat):Int)=(L.length:Int)-(n:Int) by omega,<-f1]at h9;rw[<-f1]at a6;obtain⟨gq,k1⟩:=exq<|wr.heap.size;rw[<-k1]at h9 a6;have e9:Below wr.heap.size wr wm:=blr.grown k5 nlr (by simp);have h5:Own wm w.heap.size 179 .u64 (.slice (some (Ad gq 0)) s s) (List.replicate s 0):=by
  unfold Own;rw[Ly,List.length_replicate];have:=a6;rw[Nat.mul_one,show (Value.int .u64 0).cells=#[Value.int .u64 0] from rfl,toList_madeCells_one]at this;exact this
 have d3:Div0 L vs n:=⟨b3.o,by rw[O.o];exact Ba _,d4,e8.o,by
  have h:=IH (n:=d*k) (by have:=hd.o;exact Nat.mul_ne_zero this (by omega));rw[<-O.o,e8.o]at h;omega⟩
 have h7:bval (L.drop (L.length-n))<bval vs:=by
  have h:=Vd (m:=m) hd.o a9 (L0:=L) (by rw[<-HN.o,<-b0.o];exact i2) b3.o U.o (by rw[<-b0.o];exact h4);rw[<-HN.o]at h;rw[O.o,Bb];exact h
 have i3:DvInv L vs L (List.replicate s 0) n s:=by
  have h:=DvInv.start d3 (by omega) h7
  rwa [<-f1]at h
 have s5:s+n=b7+1:=by omega
 replace i3:=qh i3;clear h7;replace d3:=qh d3;replace h5:=qh h5;clear a6;have n9:=qh<|HO.o.kept e9 nlr;have o3:=qh<|c8.o.kept e9 nlr;have m5:=qh<|b8.o.trans (e9.mono e5);have e6:Hd (gq≠g/\gq≠gv):=qh ⟨by omega,by omega⟩;have s8:=qh h4;have h6:L.length<=o/\o<=maxLen:=by
  obtain⟨g',q9,h1,_,_,h2,h3⟩:=HO.o.some (by omega);simp only[Value.slice.injEq,true_and]at h1;obtain⟨_,rfl⟩:=h1;exact⟨h2,h3⟩
 obtain⟨m2,f0⟩:=h6;unfold maxLen at f0;clear e9 k5 f1 k1 h4 k2 k3
 go_wp2_with fail
 clear h9
 go_loopw [50] (λi wq=>∃(j:Nat) (Lc qs:List Nat),j<=s/\i=.int .i64 (j:Int)/\DvInv L vs Lc qs n (s-j)/\Own wq w.heap.size 179 .u64 (.slice (some (Ad g 0)) L.length o) Lc/\
   Own wq w.heap.size 179 .u64 (.slice (some (Ad gv 0)) n cv) vs/\Own wq w.heap.size 179 .u64 (.slice (some (Ad gq 0)) s s) qs/\Below w.heap.size w wq) (λi _=>s-(intOf i).toNat)
 case atStart=>exact⟨0,L,_,Nat.zero_le _,rfl,i3.o,n9.o,o3.o,h5.o,m5.o⟩
 obtain⟨j,Lc,qs,hj,rfl,z,Q,N,d7,P⟩:=hrel;have g8:=qh z;clear z;have e7:=qh Q;clear Q;have i9:=qh N;clear N;have g9:=qh d7;clear d7;have g7:=qh P;clear P;by_cases p6:j<s
 ·obtain⟨a,ha⟩:=exq<|s-1-j;have z:=g8.o;rw[show s-j=a+1 by omega]at z;have g3:=z.seg_len;have G:=z.len;have p8:=z.ql;have hcut:=DvInv.cut Lc n a;have a2:=TR w.heap.size g L.length o (o-a) gv 0 cv n (Lc.take a) ((Lc.drop a).take (n+1)) (Lc.drop (a+(n+1))) vs wr (by rw[<-hcut];exact G) (by rw[<-hcut];exact e7.o) (z.divIn d3.o) (by omega) b1.o.symm
   (λi hi=>by rw[Nat.zero_add];exact i9.o.cell e8.o i hi)
  rw[g3.2]at a2;replace a2:=qh a2;clear hcut;have F:=qh z;clear z g3 G p8;subst ha;have k6:s-1-j<s:=by omega
  go_wp2_with fail
  rw[show s-1-j+n+1-(s-1-j)=n+1 by omega];refine a2.o.mono ?_;rintro e w6⟨v6,rfl,l2,l4,l3,g2,a4⟩;have e3:=F.o.step d3.o (by rw[l2];exact F.o.seg_len.1) l4 l3;have f3:=g9.o.keptBy a4 (by have:=e6.o.1;simp;omega);have l5:=i9.o.keptBy a4 (by have:=b1.o;simp;omega);have h8:=e7.o.base.1;have k4:=g9.o.base.1;have j4:Below w.heap.size w w6:=g7.o.grown a4 (g7.o.size) (λq hq=>by cases hq;exact h8);have B:qs.length=s:=by have h1:=F.o.ql;omega
  have cq:=f3.cell B (s-1-j) k6;have fq:=f3.free B (s-1-j);have k9:=f3.set B (s-1-j) (bval ((Lc.drop (s-1-j)).take (n+1)) / bval vs);have d5:w6.grownBy (w6.setCell (Ad gq (s-1-j)) (.int .u64 ((bval ((Lc.drop (s-1-j)).take (n+1)) / bval vs:Nat):Int))) (some gq):=Fb (JK _ _) _ _;have l1:=g2.keptBy d5 (by have:=e6.o.1;simp;omega);have l6:=l5.keptBy d5 (by have:=e6.o.2;simp;omega);have j5:=j4.setCell (p:=(Ad gq (s-1-j))) k4 (.int .u64 ((bval ((Lc.drop (s-1-j)).take (n+1)) / bval vs:Nat):Int));have m9:=qh e3;have n6:=qh l1;have o2:=qh l6;have m8:=qh k9;have m3:=qh j5;clear e3 l1 l6 k9 j5 d5 f3 l5 j4 g2 a4 l3 l4 l2 B;go_wp2;go_roundw
  case rel=>exact⟨j+1,_,_,by omega,by go_num,by rw[show s-(j+1)=s-1-j by omega];exact m9.o,n6.o,o2.o,m8.o,m3.o⟩
  simp[intOf];omega
 have d6:j=s:=by omega
 have z:=g8.o;rw[d6,Nat.sub_self]at z;have a3:=z.done;have G:=z.len;have b5:=EN (some (Ad g 0)) o Lc wr (by rw[G];exact e7.o.sl);rw[G]at b5;have n5:=qh b5;clear b5;have F:=qh z;clear z;replace a3:=qh a3;have b9:=qh G;clear G g8 d6
 go_wp2_with fail
 refine n5.o.mono ?_;rintro e w6⟨D,f4,rfl,rfl⟩;replace f4:=qh f4;have p9:D<=L.length:=by have:=f4.o.1;rw[b9.o]at this;exact this
 obtain⟨X,e0⟩:=exq<|Lc.take D;have R:X.length=D:=by rw[e0,List.length_take,b9.o];omega
 have e1:bval X=(m % d)*k:=by
  rw[e0,QT f4.o.2.1,a3.o.2,U.o,O.o,Bb,Nat.mul_mod_mul_right]
 have S:Small X:=by rw[e0];exact EI F.o.small _
 have d8:Own wr w.heap.size 179 .u64 (.slice (some (Ad g 0)) D o) X:=by
  rw[e0];exact e7.o.take (by rw[b9.o];exact p9)
 have E:=DnInv.start a9 S;rw[R]at E;replace E:=qh E;replace R:=qh R;replace e1:=qh e1;replace S:=qh S;have m7:=qh d8;clear d8 e0;have t8:(k:Int)<=999999999:=by have:=W.o;rw[An]at this;omega
 obtain⟨wo,rfl⟩:∃wo:World,wo=wr:=⟨_,rfl⟩
 go_wp2_with fail
 go_loopw [12,75] (λlf i wq=>∃(H I:Nat) (Lr:List Nat),H<=D/\i=.int .i64 (H:Int)/\lf=.int .u64 (I:Int)/\DnInv X Lr k (D-H) I/\Own wq w.heap.size 179 .u64 (.slice (some (Ad g 0)) D o) Lr/\
   Own wq w.heap.size 179 .u64 (.slice (some (Ad gq 0)) s s) qs/\Below w.heap.size w wq) (λ_ i _=>D-(intOf i).toNat)
 case atStart=>exact⟨0,0,X,Nat.zero_le _,rfl,rfl,E.o,m7.o,g9.o,g7.o⟩
 obtain⟨H,I,Lr,t7,rfl,rfl,A,d8,d7,P⟩:=hrel;have f7:=qh A;clear A;have J:=qh d8;clear d8;have c7:=qh d7;clear d7;have f5:=qh P;clear P;by_cases s6:H<D
 ·have A:=f7.o;rw[show D-H=D-1-H+1 by omega]at A;have c:=A.len;rw[R.o]at c;have s4:(I:Int)<=999999999:=by have h1:=A.left;have h2:=W.o;rw[An]at h2;omega
  have s7:((nth X (D-1-H):Nat):Int)<=999999999:=by have:=S.o<|D-1-H;rw[An]at this;omega
  have o9:=J.o.cell c (D-1-H) (by omega);rw[OB A.low (by omega)]at o9;have h7:=J.o.free c (D-1-H);have s3:(1:Int)<=(k:Int):=by omega
  have e2:=A.step a9 S.o;replace e2:=qh e2;clear A;have f8:=qh c;clear c
  go_wp2_with fail
  go_region
  go_wp2;go_roundw
  case rel =>
   have o5:((I:Int)*1000000000+((nth X (D-1-H):Nat):Int)) / (k:Int)=(((I*1000000000+nth X (D-1-H)) / k:Nat):Int):=by simp
   have o6:((I:Int)*1000000000+((nth X (D-1-H):Nat):Int)) % (k:Int)=(((I*1000000000+nth X (D-1-H)) % k:Nat):Int):=by simp
   rw[o5,o6];have l0:=(J.o.set f8.o (D-1-H) ((I*1000000000+nth X (D-1-H)) / k)).kept (Below.drew blr) nlr;have p7:=(c7.o.keptBy (Fb (g:=g) (JK wr _) (D-1-H) (.int .u64 (((I*1000000000+nth X (D-1-H)) / k:Nat):Int))) (by have:=e6.o.1;simp;omega)).kept (Below.drew blr) nlr;exact⟨H+1,_,_,by omega,by go_num,rfl,by rw[show D-(H+1)=D-1-H by omega];exact e2.o,l0,p7,(f5.o.setCell J.o.base.1 _).drew⟩
  simp[intOf];omega
 have d6:H=D:=by omega
 have A:=f7.o;rw[d6,Nat.sub_self]at A;have K:=A.done;rw[e1.o,Nat.mul_div_cancel _ a9]at K;have c:=A.len;rw[R.o]at c;have B:qs.length=s:=by have h1:=F.o.ql;omega
 have b4:=EN (some (Ad gq 0)) s qs wr (by rw[B];exact c7.o.sl);rw[B]at b4;have a7:=EN (some (Ad g 0)) o Lr wr (by rw[c];exact J.o.sl);rw[c]at a7;have n3:=qh b4;clear b4;replace a7:=qh a7;have f8:=qh c;clear c;have q8:=qh B;clear B;replace K:=qh K;have i7:=qh A;clear A d6
 go_wp2_with fail
 refine n3.o.mono ?_;rintro e w7⟨tq,b4,rfl,rfl⟩;have Y:=qh b4;clear b4
 go_wp2_with fail
 refine a7.o.mono ?_;rintro e w8⟨tr,b5,rfl,rfl⟩;have Z:=qh b5;clear b5;go_wp2;go_ret2;refine⟨_,_,rfl,?_,?_,f5.o⟩
 ·have e:toB (m / d)=qs.take tq:=by
   rw[FC F.o.sq Y.o.1 Y.o.2.1 Y.o.2.2,a3.o.1,U.o,O.o,Bb,Nat.mul_div_mul_right _ _ a9]
  rw[e];exact c7.o.sl.take Y.o.1
 have e:toB (m % d)=Lr.take tr:=by
  rw[FC i7.o.small Z.o.1 Z.o.2.1 Z.o.2.2,K.o]
 rw[e];exact J.o.sl.take Z.o.1
def Nb(c g:Value)(m d:Nat)(w:World)(i:Sl w .u64 c (toB m))(j:Sl w .u64 g (toB d))(k:d≠0)(l:(toB m).length<=50000):
  Calls prog 223 #[c,g] w (DivEnd m d w):=by
 rcases Nat.lt_or_ge m d with h|h
 ·exact TY c g m d w i j h
 exact TX c g m d w i j k h l
variable{t:ByteArray}
def TripEnd(r:ByteArray × ByteArray × Nat)(w:World)(e:Ending)(w':World):Prop:=e=.returned (.tuple #[.string r.1,.string r.2.1,.int .i64 (r.2.2:Int)])/\Below w.heap.size w w'
def divF(s t:ByteArray):ByteArray × ByteArray × Nat:=if vld s&&vld t then (if val t=0 then (str [],str [],4) else (str (dec (val s / val t)),str (dec (val s % val t)),0)) else (str [],str [],1)
def gcdF(s t:ByteArray):ByteArray × Nat:=if vld s&&vld t then (str (dec (Nat.gcd (val s) (val t))),0) else (str [],1)
def NI(h:vld t=true)(c:val t=0):t.toList=[48]:=by
 rw[Lib.toList_data];exact WJ h (show Aq [48]=true by decide) (by rw[show num [48]=0 from rfl];exact c)
def HA(c:¬val t=0):¬t.toList=[48]:=by
 rw[Lib.toList_data];intro e;apply c;unfold val bts;rw[e];rfl
def TT(s t:ByteArray)(w:World)(S:s.size<=maxLen)(T:t.size<=maxLen)(m:Tab w):
  Calls prog 224 #[.string s,.string t] w (TripEnd (divF s t) w):=by
 have I:=qh m;clear m;have c1:=Ct s w S;have c2:=Ct t w T;clear S T;cases d:vld s with
 |false =>
  have c:divF s t=(str [],str [],1):=by unfold divF;rw[d];rfl
  rw[c];rw[d]at c1;clear c d c2 I;have D:=qh c1;clear c1
  go_enter func224,ntmps224
  go_wp2_with fail
  refine D.o.mono ?_;rintro e E⟨rfl,rfl⟩;go_wp2
  go_ret3
  exact⟨rfl,blr⟩
 |true =>
  cases g:vld t with
  |false =>
   have c:divF s t=(str [],str [],1):=by unfold divF;rw[d,g];rfl
   rw[c];rw[d]at c1;rw[g]at c2;clear c d g I;have D:=qh c1;clear c1;have H:=qh c2;clear c2
   go_enter func224,ntmps224
   go_wp2_with fail
   refine D.o.mono ?_;rintro e E⟨rfl,rfl⟩
   go_wp2_with fail
   refine H.o.mono ?_;rintro e E⟨rfl,rfl⟩;go_wp2
   go_ret3
   exact⟨rfl,blr⟩
  |true =>
   rw[d]at c1;rw[g]at c2;have D:=qh c1;clear c1;have H:=qh c2;clear c2;have lm:=CQ d;have ln:=CQ g;have Q:=CC s w d;have N:=qh Q;clear Q;have R:=λw=>CC t w g;have O:=qh R;clear R;replace d:=qh d;replace g:=qh g;by_cases o:val t=0
   ·have c:divF s t=(str [],str [],4):=by unfold divF;rw[d.o,g.o,ifp o];rfl
    rw[c];clear c;have l:=NI g.o o;have G:(t.toList==[48])=true:=by rw[l];rfl
    clear o N O lm ln
    go_enter func224,ntmps224
    go_wp2_with fail
    refine D.o.mono ?_;rintro e E⟨rfl,rfl⟩
    go_wp2_with fail
    refine H.o.mono ?_;rintro e E⟨rfl,rfl⟩
    go_wp2_with fail
    go_ret3
    exact⟨rfl,blr⟩
   have c:divF s t=(str (dec (val s / val t)),str (dec (val s % val t)),0):=by unfold divF;rw[d.o,g.o,ifn o];rfl
   rw[c];clear c;have l:=HA o;have G:(t.toList==[48])=false:=by rw[beq_eq_false_iff_ne];exact l
   replace o:=qh o
   go_enter func224,ntmps224
   go_wp2_with fail
   refine D.o.mono ?_;rintro e E⟨rfl,rfl⟩
   go_wp2_with fail
   refine H.o.mono ?_;rintro e E⟨rfl,rfl⟩
   go_wp2_with fail
   clear l G;refine N.o.mono ?_;rintro e w1⟨v1,rfl,z,j⟩;replace z:=qh z;replace j:=qh j;have L:=j.o.size
   go_wp2_with fail
   refine(O.o w1).mono ?_;rintro e w2⟨v2,rfl,A,h⟩;replace A:=qh A;replace h:=qh h;have Y:=h.o.size;have J:=qh<|z.o.sl.below h.o nlr;have u:=Nb v1 v2 (val s) (val t) w2 J.o A.o.sl o.o (by omega);replace u:=qh u
   go_wp2_with fail
   refine u.o.mono ?_;rintro e w3⟨vq,vr,rfl,K,c,k⟩;replace K:=qh K;have U:=qh c;clear c;replace k:=qh k;have Z:=k.o.size;have P:=qh<|j.o.trans ((h.o.mono L).trans (k.o.mono (by omega)));have W:=Ek<|Nat.div_le_self (val s) (val t);have X:=Ek<|Nat.mod_le (val s) (val t);have B:=GG vq (val s / val t) w3 K.o (by omega) (I.o.below P.o nlr);replace B:=qh B
   go_wp2_with fail
   refine B.o.mono ?_;rintro e w4⟨rfl,i⟩;replace i:=qh i;have a1:=i.o.size;have F:=qh<|P.o.trans (i.o.mono (by omega));have C:=GG vr (val s % val t) w4 (U.o.below i.o nlr) (by omega) (I.o.below F.o nlr);replace C:=qh C
   go_wp2_with fail
   refine C.o.mono ?_;rintro e w5⟨rfl,p⟩;replace p:=qh p
   go_wp2_with fail
   go_ret3
   exact⟨rfl,F.o.trans (p.o.mono (by omega))⟩
def Vi(s t:ByteArray)(w:World)(T:s.size<=maxLen)(U:t.size<=maxLen)(m:Tab w):
  Calls prog 208 #[.string s,.string t] w (PairEnd (gcdF s t) w):=by
 have O:=qh m;clear m;have c1:=Ct s w T;have c2:=Ct t w U;clear T U;cases c:vld s with
 |false =>
  have h:gcdF s t=(str [],1):=by unfold gcdF;rw[c];rfl
  rw[h];rw[c]at c1;clear h c c2 O;have E:=qh c1;clear c1
  go_enter func208,ntmps208
  go_wp2_with fail
  refine E.o.mono ?_;rintro e K⟨rfl,rfl⟩;go_wp2;go_ret2;exact⟨rfl,blr⟩
 |true =>
  cases j:vld t with
  |false =>
   have h:gcdF s t=(str [],1):=by unfold gcdF;rw[c,j];rfl
   rw[h];rw[c]at c1;rw[j]at c2;clear h c j O;have E:=qh c1;clear c1;have L:=qh c2;clear c2
   go_enter func208,ntmps208
   go_wp2_with fail
   refine E.o.mono ?_;rintro e K⟨rfl,rfl⟩
   go_wp2_with fail
   refine L.o.mono ?_;rintro e K⟨rfl,rfl⟩;go_wp2;go_ret2;exact⟨rfl,blr⟩
  |true =>
   rw[c]at c1;rw[j]at c2;have E:=qh c1;clear c1;have L:=qh c2;clear c2;have lm:=CQ c;have ln:=CQ j;have P:=CC s w c;replace P:=qh P;have Q:=λw=>CC t w j;replace Q:=qh Q;replace c:=qh c;replace j:=qh j;have h:gcdF s t=(str (dec (Nat.gcd (val s) (val t))),0):=by unfold gcdF;rw[c.o,j.o];rfl
   rw[h];clear h
   go_enter func208,ntmps208
   go_wp2_with fail
   refine E.o.mono ?_;rintro e K⟨rfl,rfl⟩
   go_wp2_with fail
   refine L.o.mono ?_;rintro e K⟨rfl,rfl⟩
   go_wp2_with fail
   refine P.o.mono ?_;rintro e w1⟨v1,rfl,B,k⟩;replace B:=qh B;replace k:=qh k;have R:=k.o.size
   go_wp2_with fail
   refine(Q.o w1).mono ?_;rintro e w2⟨v2,rfl,C,d⟩;replace C:=qh C;replace d:=qh d;have Z:=d.o.size;have N:=qh<|B.o.sl.below d.o nlr
   go_wp2_with fail
   go_loopg [6,7] (val t) (λg vx vy wr=>∃p:Nat,Sl wr .u64 vx (toB p)/\Sl wr .u64 vy (toB g)/\Nat.gcd p g=Nat.gcd (val s) (val t)/\(toB p).length<=112/\(toB g).length<=112/\Below w.heap.size w wr)
   case atStart=>exact⟨val s,N.o,C.o.sl,rfl,lm,ln,k.o.trans (d.o.mono R)⟩
   obtain⟨p,G,H,J,X,F,hb⟩:=hrel;obtain⟨a1,c1,rfl⟩:=G.shape;obtain⟨a2,c2,rfl⟩:=H.shape;replace G:=qh G;replace H:=qh H;replace J:=qh J;replace hb:=qh hb;have I:=hb.o.size;by_cases i:gk=0
   ·have A:(toB gk).length=0:=by rw[i];rfl
    have z:p=Nat.gcd (val s) (val t):=by rw[<-J.o,i,Nat.gcd_zero_right]
    rw[A];replace z:=qh z;clear i A F;have D:=GG _ p wr G.o (by omega) (O.o.below hb.o nlr);replace D:=qh D
    go_wp2_with fail
    refine D.o.mono ?_;rintro e w5⟨rfl,o⟩;replace o:=qh o;go_wp2;go_ret2;exact⟨Ip (by rw[z.o]) rfl,hb.o.trans (o.o.mono I)⟩
   have A:=El i;have u:=Nb _ _ p gk wr G.o H.o i (by omega);replace u:=qh u;have Y:=Ek<|Nat.le_of_lt (Nat.mod_lt p (Nat.pos_of_ne_zero i));replace i:=qh i
   go_wp2_with fail
   refine u.o.mono ?_;rintro e w3⟨vq,vr,rfl,S,h,l⟩;replace S:=qh S;have W:=qh h;clear h;replace l:=qh l
   go_wp2_with fail
   go_roundg (p % gk)
   case measure=>exact Nat.mod_lt _ (Nat.pos_of_ne_zero i.o)
   case rel=>exact⟨gk,H.o.below l.o nlr,W.o,by rw[<-J.o,Nat.gcd_comm gk,<-Nat.gcd_rec,Nat.gcd_comm],F,by omega,hb.o.trans (l.o.mono I)⟩
variable{s:ByteArray}
def fits(n:Nat):Prop:=(dec n).length<=1000
theorem AB(n:Nat):val (str (dec n))=n:=by unfold val;rw[AP];exact CL n
def AY(h:fits n):vld (str (dec n))=true:=by unfold vld;rw[AP];exact Lx h
def EH(h:vld s=true):str (dec (val s))=s:=by unfold val;rw[BZ h,Ej]
theorem FV(h:vld s=true):fits (val s):=by unfold fits val;rw[BZ h,Ap];exact(BL h).2
def Cj{m:Nat}(h:fits n)(c:m<=n):fits m:=by
 unfold fits at *;exact Cg.2 ⟨Nat.lt_of_le_of_lt c (Cg.1 h).1,by omega⟩
def AW(h:fits n):(str (dec n)).size<=maxLen:=by rw[AI];unfold fits at h;unfold maxLen;omega
def NU(h:fits n):limS n=(str (dec n),0):=ifp h
def RY(c:vld s=true)(d:vld t=true):addF s t=limS (val s+val t):=by unfold addF;rw[c,d];rfl
def Wm(c:vld s=true)(d:vld t=true):mulF s t=limS (val s*val t):=by unfold mulF;rw[c,d];rfl
def LP(c:vld s=true)(d:vld t=true)(h:fits (val s+val t)):addF s t=(str (dec (val s+val t)),0):=by rw[RY c d,NU h]
theorem On(c:vld s=true)(d:vld t=true)(h:fits (val s*val t)):mulF s t=(str (dec (val s*val t)),0):=by rw[Wm c d,NU h]
theorem Zn(c:vld s=true)(d:vld t=true):subF s t=if val s<val t then (⟨#[]⟩,4) else (str (dec (val s-val t)),0):=by unfold subF;rw[c,d];rfl
def Qy(c:vld s=true)(d:vld t=true)(h:val t<=val s):subF s t=(str (dec (val s-val t)),0):=by rw[Zn c d,ifn (by omega)]
theorem TS(c:vld s=true)(d:vld t=true):divF s t=if val t=0 then (⟨#[]⟩,⟨#[]⟩,4) else (str (dec (val s / val t)),str (dec (val s % val t)),0):=by unfold divF;rw[c,d];rfl
def Jv(c:vld s=true)(d:vld t=true)(h:val t≠0):divF s t=(str (dec (val s / val t)),str (dec (val s % val t)),0):=by rw[TS c d,ifn h]
theorem NB(c:vld s=true)(d:vld t=true):gcdF s t=(str (dec (Nat.gcd (val s) (val t))),0):=by unfold gcdF;rw[c,d];rfl
variable{b c d k:Nat}{q:Rat}
def Nx(h:n<10 ^ k)(d:k<=1000)(c:1<=k):fits n:=by
 unfold fits;have:=Cg.2 ⟨h,c⟩;omega
def BF(h:fitQ q):fits q.num.natAbs:=by unfold fits;have:=h.1;omega
def Bc(h:fitQ q):fits q.den:=by unfold fits;have:=h.2;omega
def pow400(h:(dec n).length<=400):n<10 ^ 400:=(Cg.1 h).1
def Kg(c:m<10 ^ k)(d:n<10 ^ k):m*n<10 ^ (k+k):=by rw[Nat.pow_add];exact VO c d
def Zv(g:a<10 ^ k)(hb:b<10 ^ k)(h:c<10 ^ k)(i:d<10 ^ k):a*b+c*d<10 ^ (k+k+1):=by
 have j:=Kg g hb;have l:=Kg h i;rw[Nat.pow_succ];omega
def Bo(c:(dec m).length<=400)(hn:(dec n).length<=400):fits (m*n) :=
 Nx (Kg (pow400 c) (pow400 hn)) (by omega) (by omega)
def FU(g:(dec a).length<=400)(hb:(dec b).length<=400)(h:(dec c).length<=400)(i:(dec d).length<=400):fits (a*b+c*d) :=
 Nx (Zv (pow400 g) (pow400 hb) (pow400 h) (pow400 i)) (by omega) (by omega)
def StrE(s:ByteArray)(w:World)(e:Ending)(w':World):Prop:=e=.returned (.string s)/\Below w.heap.size w w'
def StrZ(s:ByteArray)(w:World)(e:Ending)(w':World):Prop:=e=.returned (.tuple #[.string s,.int .i64 0])/\Below w.heap.size w w'
def Wz(m n:Nat)(w:World)(c:fits m)(hn:fits n)(h:fits (m+n))(d:Tab w):
  Calls prog 201 #[.string (str (dec m)),.string (str (dec n))] w (StrZ (str (dec (m+n))) w):=by
 have:=Sd (str (dec m)) (str (dec n)) w (AW c) (AW hn) d;rw[LP (AY c) (AY hn) (by rw[AB,AB];exact h),AB,AB]at this;exact this
def OA(m n:Nat)(w:World)(c:fits m)(hn:fits n)(h:n<=m)(d:Tab w):
  Calls prog 203 #[.string (str (dec m)),.string (str (dec n))] w (StrZ (str (dec (m-n))) w):=by
 have:=Zo (str (dec m)) (str (dec n)) w (AW c) (AW hn) d;rw[Qy (AY c) (AY hn) (by rw[AB,AB];exact h),AB,AB]at this;exact this
def CK(m n:Nat)(w:World)(c:fits m)(hn:fits n)(h:fits (m*n))(d:Tab w):
  Calls prog 189 #[.string (str (dec m)),.string (str (dec n))] w (StrZ (str (dec (m*n))) w):=by
 have:=Wq (str (dec m)) (str (dec n)) w (AW c) (AW hn) d;rw[On (AY c) (AY hn) (by rw[AB,AB];exact h),AB,AB]at this;exact this
def Ox(m n:Nat)(w:World)(c:fits m)(hn:fits n)(d:Tab w):
  Calls prog 208 #[.string (str (dec m)),.string (str (dec n))] w (StrZ (str (dec (Nat.gcd m n))) w):=by
 have:=Vi (str (dec m)) (str (dec n)) w (AW c) (AW hn) d;rw[NB (AY c) (AY hn),AB,AB]at this;exact this
def WA(m n:Nat)(w:World)(c:fits m)(hn:fits n)(h:n≠0)(d:Tab w):
  Calls prog 224 #[.string (str (dec m)),.string (str (dec n))] w λe w'=>e=.returned (.tuple #[.string (str (dec (m / n))),.string (str (dec (m % n))),.int .i64 0])/\Below w.heap.size w w':=by
 have:=TT (str (dec m)) (str (dec n)) w (AW c) (AW hn) d;rw[Jv (AY c) (AY hn) (by rw[AB];exact h),AB,AB]at this;exact this
def Ou(m n:Nat)(w:World)(c:fits m)(hn:fits n):
  Calls prog 202 #[.string (str (dec m)),.string (str (dec n))] w (IntEnd (cmpN m n) w):=by
 have:=Tr (str (dec m)) (str (dec n)) w (AW c) (AW hn);unfold cmpF at this;rw[AY c,AY hn,AB,AB]at this;exact this
def Pi(m n:Nat)(w:World)(d:fits m)(hn:fits n)(h:n≠0)(g:Tab w):
  Calls prog 209 #[.string (str (dec m)),.string (str (dec n))] w (StrE (str (dec (m / n))) w):=by
 have c:=WA m n w d hn h g;replace c:=qh c;clear d hn h g
 go_enter func209,ntmps209
 go_wp2_with fail
 refine nxa c.o λj i=>?_
 go_wp2_with fail
 refine(Bd _ _).mono ?_;rintro e k⟨rfl,rfl⟩;go_wp2;go_ret;exact⟨rfl,i.o⟩
def Ky(p q:Bool)(m n:Nat)(w:World)(h:fits (m+n))(j:Tab w):
  Calls prog 187 #[.bool p,.string (str (dec m)),.bool q,.string (str (dec n))] w λe w' =>
   e=.returned (.tuple #[.bool (sumF p m q n).1,.string (str (dec (sumF p m q n).2))])/\Below w.heap.size w w':=by
 have k:fits m:=Cj h (by omega);have l:fits n:=Cj h (by omega);by_cases g:p=q
 ·subst g;have o:sumF p m p n=(p,m+n):=by unfold sumF;rw[ifp rfl]
  rw[o];have i:=Wz m n w k l h j;have B:=qh i;clear i k l h j o;have J:(p==p)=true:=by cases p<;>rfl
  go_enter func187,ntmps187
  go_wp2_with fail
  refine nxa B.o λs F=>?_
  go_wp2_with fail
  refine(Bd _ _).mono ?_;rintro e I⟨rfl,rfl⟩;go_wp2;go_ret2;exact⟨rfl,F.o⟩
 have hb:(p==q)=false:=by rw[beq_eq_false_iff_ne];exact g
 by_cases d:m<n;have o:sumF p m q n=(q,n-m):=by unfold sumF;rw[ifn g,ifp d]
 rw[o];have i:=Ou m n w k l;rw[Cw d]at i;have C:=λs j=>OA n m s l k (Nat.le_of_lt d) j
 rotate_left
 have o:sumF p m q n=(p,m-n):=by unfold sumF;rw[ifn g,ifn d]
 rw[o];have i:=Ou m n w k l;have D:0<=cmpN m n:=by
  rcases Nat.lt_or_ge n m with E|E
  ·rw[CW E];omega
  rw[DZ (by omega)];omega
 generalize cmpN m n=z at i D;have C:=λs j=>OA m n s k l (by omega) j
 all_goals
  have B:=qh i;clear i;have G:=qh C;clear C;have H:=qh j;clear k l h j o d g
  go_enter func187,ntmps187
  go_wp2_with fail
  refine B.o.mono ?_;rintro e s⟨rfl,c⟩;replace c:=qh c
  go_wp2_with fail
  refine(G.o s (H.o.below c.o nlr)).mono ?_;rintro e I⟨rfl,u⟩;have A:=qh<|c.o.trans (u.mono c.o.size);clear u
  go_wp2_with fail
  refine(Bd _ _).mono ?_;rintro e K⟨rfl,rfl⟩;go_wp2;go_ret2;exact⟨rfl,A.o⟩
def PT:Ending:=.panicked [{ v:=.iface 198 (.agg #[]),recovered:=false }]
def QEnd(q:Rat)(w:World)(e:Ending)(w':World):Prop:=e=(if fitQ q then .returned (nv q) else PT)/\Below w.heap.size w w'
def res3{w wk:World}{a b c:Value}{t:TypeId}(h:Below (w.alloc (.cells #[a,b,c] t)).heap.size (w.alloc (.cells #[a,b,c] t)) wk):
  wk.cell? (Ad w.heap.size 0)=some a/\wk.cell? (Ad w.heap.size 1)=some b/\wk.cell? (Ad w.heap.size 2)=some c/\wk.frozen? (Ad w.heap.size 0)=false/\wk.frozen? (Ad w.heap.size 1)=false/\wk.frozen? (Ad w.heap.size 2)=false/\w.heap.size<wk.heap.size:=by
 have g:=h.size;have d:w.heap.size<(w.alloc (.cells #[a,b,c] t)).heap.size:=by simp
 refine⟨?_,?_,?_,?_,?_,?_,by omega⟩
 ·exact(h.cell (p:=(Ad w.heap.size 0)) d).trans (by simp)
 ·exact(h.cell (p:=(Ad w.heap.size 1)) d).trans (by simp)
 ·exact(h.cell (p:=(Ad w.heap.size 2)) d).trans (by simp)
 ·exact(h.frozen (p:=(Ad w.heap.size 0)) d).trans (by simp)
 ·exact(h.frozen (p:=(Ad w.heap.size 1)) d).trans (by simp)
 exact(h.frozen (p:=(Ad w.heap.size 2)) d).trans (by simp)
def set3{w:World}{n:Nat}{a b c a' b' c':Value}(k0:w.cell? (Ad n 0)=some a)(d:w.cell? (Ad n 1)=some b)(g:w.cell? (Ad n 2)=some c):
  (((w.setCell (Ad n 0) a').setCell (Ad n 1) b').setCell (Ad n 2) c').cell? (Ad n 0)=some a'/\(((w.setCell (Ad n 0) a').setCell (Ad n 1) b').setCell (Ad n 2) c').cell? (Ad n 1)=some b'/\(((w.setCell (Ad n 0) a').setCell (Ad n 1) b').setCell (Ad n 2) c').cell? (Ad n 2)=some c':=by
 refine⟨?_,?_,?_⟩<;>simp[go_sem,k0,d,g]
theorem Eh{fn:Func}{p:Tmp}(h:fn.results=#[.cell p 189])(c:Array Value)(W:World)(n:Nat)(r:Bool)(x y:ByteArray)
  (g:c.getD p undef=.pointer (some (Ad n 0))) (c0:W.cell? (Ad n 0)=some (.bool r)) (c1:W.cell? (Ad n 1)=some (.string x)) (c2:W.cell? (Ad n 2)=some (.string y)) :
  (results fn c).run prog W=.ok (.agg #[.bool r,.string x,.string y]) W:=by
 have d:c[p]?.getD undef=.pointer (some (Ad n 0)):=by rw[<-g];simp
 simp only[results,h];simp[d,go_sem,c0,c1,c2]
theorem XP(s:Bool)(a b g x y:ByteArray)(r:Bool)(w:World)(S:(s=false/\r=false)\/(s=true/\(a.toList==[48])=!r))
  (I:x.size<=1000) (J:y.size<=1000)
  (c1:∀wx,Below w.heap.size w wx->Calls prog 208 #[.string a,.string b] wx (StrZ g wx))
  (c2:∀wx,Below w.heap.size w wx->Calls prog 209 #[.string a,.string g] wx (StrE x wx))
  (c3:∀wx,Below w.heap.size w wx->Calls prog 209 #[.string b,.string g] wx (StrE y wx)) :
  Calls prog 190 #[.bool s,.string a,.string b] w λe w' =>
   e=(if x.size<=400/\y.size<=400 then .returned (nvS r x y) else PT)/\Below w.heap.size w w':=by
 replace c1:=qh c1;replace c2:=qh c2;replace c3:=qh c3;have l:Below w.heap.size w (w.alloc (.cells #[.bool false,.string ⟨#[]⟩,.string ⟨#[]⟩] 189)):=blr.alloc nlr _;replace l:=qh l;have D:(x.size<=400/\y.size<=400)\/(x.size<=400/\400<y.size)\/400<x.size:=by omega
 unfold PT nvS
 rcases S with⟨rfl,rfl⟩|⟨rfl,T⟩
 ·
  rcases D with⟨A,E⟩|⟨A,E⟩|A
  ·rw[ifp ⟨A,E⟩];have O:(x.size:Int)<=400:=by omega
   have R:(y.size:Int)<=400:=by omega
   clear A E;clear I J
   go_enter func190,ntmps190
   go_wp2_with fail
   refine(c1.o _ l.o).mono ?_;rintro e P⟨rfl,i⟩;have o:=qh i;have c:=qh<|l.o.trans (i.mono l.o.size);clear i
   go_wp2_with fail
   refine(Bd _ _).mono ?_;rintro e C⟨rfl,rfl⟩
   go_wp2_with fail
   refine(c2.o _ c.o).mono ?_;rintro e C⟨rfl,j⟩;have p:=qh<|o.o.trans (j.mono o.o.size);have d:=qh<|c.o.trans (j.mono c.o.size);clear j
   go_wp2_with fail
   refine(c3.o _ d.o).mono ?_;rintro e Q⟨rfl,k⟩;have u:=qh<|p.o.trans (k.mono p.o.size);have m:=qh<|d.o.trans (k.mono d.o.size);clear k;obtain⟨F,G,H,K,L,N,z⟩:=res3 u.o;have B:=qh m.o.size
   go_wp2_with fail
   obtain⟨s0,s1,s2⟩:=set3 (a':=.bool false) (b':=.string x) (c':=.string y) F G H;refine bodyPost_ret (Eh rfl _ _ w.heap.size false x y rfl ?_ ?_ ?_) rfl ⟨rfl,?_⟩
   ·rw[World.cell?_alloc_past (hn:=by simpa using z)];exact s0
   ·rw[World.cell?_alloc_past (hn:=by simpa using z)];exact s1
   ·rw[World.cell?_alloc_past (hn:=by simpa using z)];exact s2
   exact(((m.o.setCell nlr _).setCell nlr _).setCell nlr _).alloc (by simpa using B.o) _
  ·rw[ifn (λh=>by omega)];have O:(x.size:Int)<=400:=by omega
   have R:(400:Int)<(y.size:Int):=by omega
   clear A E;clear I J
   go_enter func190,ntmps190
   go_wp2_with fail
   refine(c1.o _ l.o).mono ?_;rintro e P⟨rfl,i⟩;have o:=qh i;have c:=qh<|l.o.trans (i.mono l.o.size);clear i
   go_wp2_with fail
   refine(Bd _ _).mono ?_;rintro e C⟨rfl,rfl⟩
   go_wp2_with fail
   refine(c2.o _ c.o).mono ?_;rintro e C⟨rfl,j⟩;have p:=qh<|o.o.trans (j.mono o.o.size);have d:=qh<|c.o.trans (j.mono c.o.size);clear j
   go_wp2_with fail
   refine(c3.o _ d.o).mono ?_;rintro e Q⟨rfl,k⟩;have u:=qh<|p.o.trans (k.mono p.o.size);have m:=qh<|d.o.trans (k.mono d.o.size);clear k;obtain⟨F,G,H,K,L,N,z⟩:=res3 u.o;have B:=qh m.o.size
   go_wp2_with fail
   exact⟨rfl,rfl,m.o.alloc B.o _⟩
  rw[ifn (λh=>by omega)];have O:(400:Int)<(x.size:Int):=by omega
  clear A;clear I J
  go_enter func190,ntmps190
  go_wp2_with fail
  refine(c1.o _ l.o).mono ?_;rintro e P⟨rfl,i⟩;have o:=qh i;have c:=qh<|l.o.trans (i.mono l.o.size);clear i
  go_wp2_with fail
  refine(Bd _ _).mono ?_;rintro e C⟨rfl,rfl⟩
  go_wp2_with fail
  refine(c2.o _ c.o).mono ?_;rintro e C⟨rfl,j⟩;have p:=qh<|o.o.trans (j.mono o.o.size);have d:=qh<|c.o.trans (j.mono c.o.size);clear j
  go_wp2_with fail
  refine(c3.o _ d.o).mono ?_;rintro e Q⟨rfl,k⟩;have u:=qh<|p.o.trans (k.mono p.o.size);have m:=qh<|d.o.trans (k.mono d.o.size);clear k;obtain⟨F,G,H,K,L,N,z⟩:=res3 u.o;have B:=qh m.o.size
  go_wp2_with fail
  exact⟨rfl,rfl,m.o.alloc B.o _⟩
 cases r<;>simp only[Bool.not_true,Bool.not_false]at T
 ·
  rcases D with⟨A,E⟩|⟨A,E⟩|A
  ·rw[ifp ⟨A,E⟩];have O:(x.size:Int)<=400:=by omega
   have R:(y.size:Int)<=400:=by omega
   clear A E;clear I J
   go_enter func190,ntmps190
   go_wp2_with fail
   refine(c1.o _ l.o).mono ?_;rintro e P⟨rfl,i⟩;have o:=qh i;have c:=qh<|l.o.trans (i.mono l.o.size);clear i
   go_wp2_with fail
   refine(Bd _ _).mono ?_;rintro e C⟨rfl,rfl⟩
   go_wp2_with fail
   refine(c2.o _ c.o).mono ?_;rintro e C⟨rfl,j⟩;have p:=qh<|o.o.trans (j.mono o.o.size);have d:=qh<|c.o.trans (j.mono c.o.size);clear j
   go_wp2_with fail
   refine(c3.o _ d.o).mono ?_;rintro e Q⟨rfl,k⟩;have u:=qh<|p.o.trans (k.mono p.o.size);have m:=qh<|d.o.trans (k.mono d.o.size);clear k;obtain⟨F,G,H,K,L,N,z⟩:=res3 u.o;have B:=qh m.o.size
   go_wp2_with fail
   obtain⟨s0,s1,s2⟩:=set3 (a':=.bool false) (b':=.string x) (c':=.string y) F G H;refine bodyPost_ret (Eh rfl _ _ w.heap.size false x y rfl ?_ ?_ ?_) rfl ⟨rfl,?_⟩
   ·rw[World.cell?_alloc_past (hn:=by simpa using z)];exact s0
   ·rw[World.cell?_alloc_past (hn:=by simpa using z)];exact s1
   ·rw[World.cell?_alloc_past (hn:=by simpa using z)];exact s2
   exact(((m.o.setCell nlr _).setCell nlr _).setCell nlr _).alloc (by simpa using B.o) _
  ·rw[ifn (λh=>by omega)];have O:(x.size:Int)<=400:=by omega
   have R:(400:Int)<(y.size:Int):=by omega
   clear A E;clear I J
   go_enter func190,ntmps190
   go_wp2_with fail
   refine(c1.o _ l.o).mono ?_;rintro e P⟨rfl,i⟩;have o:=qh i;have c:=qh<|l.o.trans (i.mono l.o.size);clear i
   go_wp2_with fail
   refine(Bd _ _).mono ?_;rintro e C⟨rfl,rfl⟩
   go_wp2_with fail
   refine(c2.o _ c.o).mono ?_;rintro e C⟨rfl,j⟩;have p:=qh<|o.o.trans (j.mono o.o.size);have d:=qh<|c.o.trans (j.mono c.o.size);clear j
   go_wp2_with fail
   refine(c3.o _ d.o).mono ?_;rintro e Q⟨rfl,k⟩;have u:=qh<|p.o.trans (k.mono p.o.size);have m:=qh<|d.o.trans (k.mono d.o.size);clear k;obtain⟨F,G,H,K,L,N,z⟩:=res3 u.o;have B:=qh m.o.size
   go_wp2_with fail
   exact⟨rfl,rfl,m.o.alloc B.o _⟩
  rw[ifn (λh=>by omega)];have O:(400:Int)<(x.size:Int):=by omega
  clear A;clear I J
  go_enter func190,ntmps190
  go_wp2_with fail
  refine(c1.o _ l.o).mono ?_;rintro e P⟨rfl,i⟩;have o:=qh i;have c:=qh<|l.o.trans (i.mono l.o.size);clear i
  go_wp2_with fail
  refine(Bd _ _).mono ?_;rintro e C⟨rfl,rfl⟩
  go_wp2_with fail
  refine(c2.o _ c.o).mono ?_;rintro e C⟨rfl,j⟩;have p:=qh<|o.o.trans (j.mono o.o.size);have d:=qh<|c.o.trans (j.mono c.o.size);clear j
  go_wp2_with fail
  refine(c3.o _ d.o).mono ?_;rintro e Q⟨rfl,k⟩;have u:=qh<|p.o.trans (k.mono p.o.size);have m:=qh<|d.o.trans (k.mono d.o.size);clear k;obtain⟨F,G,H,K,L,N,z⟩:=res3 u.o;have B:=qh m.o.size
  go_wp2_with fail
  exact⟨rfl,rfl,m.o.alloc B.o _⟩
 rcases D with⟨A,E⟩|⟨A,E⟩|A
 ·rw[ifp ⟨A,E⟩];have O:(x.size:Int)<=400:=by omega
  have R:(y.size:Int)<=400:=by omega
  clear A E;clear I J
  go_enter func190,ntmps190
  go_wp2_with fail
  refine(c1.o _ l.o).mono ?_;rintro e P⟨rfl,i⟩;have o:=qh i;have c:=qh<|l.o.trans (i.mono l.o.size);clear i
  go_wp2_with fail
  refine(Bd _ _).mono ?_;rintro e C⟨rfl,rfl⟩
  go_wp2_with fail
  refine(c2.o _ c.o).mono ?_;rintro e C⟨rfl,j⟩;have p:=qh<|o.o.trans (j.mono o.o.size);have d:=qh<|c.o.trans (j.mono c.o.size);clear j
  go_wp2_with fail
  refine(c3.o _ d.o).mono ?_;rintro e Q⟨rfl,k⟩;have u:=qh<|p.o.trans (k.mono p.o.size);have m:=qh<|d.o.trans (k.mono d.o.size);clear k;obtain⟨F,G,H,K,L,N,z⟩:=res3 u.o;have B:=qh m.o.size
  go_wp2_with fail
  obtain⟨s0,s1,s2⟩:=set3 (a':=.bool true) (b':=.string x) (c':=.string y) F G H;refine bodyPost_ret (Eh rfl _ _ w.heap.size true x y rfl ?_ ?_ ?_) rfl ⟨rfl,?_⟩
  ·rw[World.cell?_alloc_past (hn:=by simpa using z)];exact s0
  ·rw[World.cell?_alloc_past (hn:=by simpa using z)];exact s1
  ·rw[World.cell?_alloc_past (hn:=by simpa using z)];exact s2
  exact(((m.o.setCell nlr _).setCell nlr _).setCell nlr _).alloc (by simpa using B.o) _
 ·rw[ifn (λh=>by omega)];have O:(x.size:Int)<=400:=by omega
  have R:(400:Int)<(y.size:Int):=by omega
  clear A E;clear I J
  go_enter func190,ntmps190
  go_wp2_with fail
  refine(c1.o _ l.o).mono ?_;rintro e P⟨rfl,i⟩;have o:=qh i;have c:=qh<|l.o.trans (i.mono l.o.size);clear i
  go_wp2_with fail
  refine(Bd _ _).mono ?_;rintro e C⟨rfl,rfl⟩
  go_wp2_with fail
  refine(c2.o _ c.o).mono ?_;rintro e C⟨rfl,j⟩;have p:=qh<|o.o.trans (j.mono o.o.size);have d:=qh<|c.o.trans (j.mono c.o.size);clear j
  go_wp2_with fail
  refine(c3.o _ d.o).mono ?_;rintro e Q⟨rfl,k⟩;have u:=qh<|p.o.trans (k.mono p.o.size);have m:=qh<|d.o.trans (k.mono d.o.size);clear k;obtain⟨F,G,H,K,L,N,z⟩:=res3 u.o;have B:=qh m.o.size
  go_wp2_with fail
  exact⟨rfl,rfl,m.o.alloc B.o _⟩
 rw[ifn (λh=>by omega)];have O:(400:Int)<(x.size:Int):=by omega
 clear A;clear I J
 go_enter func190,ntmps190
 go_wp2_with fail
 refine(c1.o _ l.o).mono ?_;rintro e P⟨rfl,i⟩;have o:=qh i;have c:=qh<|l.o.trans (i.mono l.o.size);clear i
 go_wp2_with fail
 refine(Bd _ _).mono ?_;rintro e C⟨rfl,rfl⟩
 go_wp2_with fail
 refine(c2.o _ c.o).mono ?_;rintro e C⟨rfl,j⟩;have p:=qh<|o.o.trans (j.mono o.o.size);have d:=qh<|c.o.trans (j.mono c.o.size);clear j
 go_wp2_with fail
 refine(c3.o _ d.o).mono ?_;rintro e Q⟨rfl,k⟩;have u:=qh<|p.o.trans (k.mono p.o.size);have m:=qh<|d.o.trans (k.mono d.o.size);clear k;obtain⟨F,G,H,K,L,N,z⟩:=res3 u.o;have B:=qh m.o.size
 go_wp2_with fail
 exact⟨rfl,rfl,m.o.alloc B.o _⟩
def Im(s:Bool)(m d:Nat)(w:World)(u:fits m)(i:fits d)(o:d≠0)(G:Tab w):
  Calls prog 190 #[.bool s,.string (str (dec m)),.string (str (dec d))] w (QEnd (mkRat (sg s m) d) w):=by
 obtain⟨j,k,B⟩:=Oj (sg s m) d o;rw[Iw]at j k;have A:fits (Nat.gcd m d):=Cj i (Nat.le_of_dvd (Nat.pos_of_ne_zero o) (Nat.gcd_dvd_right _ _));have g:Nat.gcd m d≠0:=by have:=Nat.gcd_pos_of_pos_right m (Nat.pos_of_ne_zero o);omega
 have p:∀c,Below w.heap.size w c->Tab c:=λc h=>G.below h nlr;have C:fits (m / Nat.gcd m d):=Cj u (Nat.div_le_self _ _);have D:fits (d / Nat.gcd m d):=Cj i (Nat.div_le_self _ _);have E:=XP s (str (dec m)) (str (dec d)) (str (dec (Nat.gcd m d))) (str (dec (m / Nat.gcd m d))) (str (dec (d / Nat.gcd m d))) (negQ (mkRat (sg s m) d)) w ?_ ?_ ?_
  (λc h=>Ox m d c u i (p c h)) (λc h=>Pi m _ c u A g (p c h)) (λc h=>Pi d _ c i A g (p c h))
 ·refine E.mono ?_;rintro e H⟨rfl,hb⟩;refine⟨?_,hb⟩;have hf:fitQ (mkRat (sg s m) d)↔((str (dec (m / Nat.gcd m d))).size<=400/\(str (dec (d / Nat.gcd m d))).size<=400):=by
   unfold fitQ;rw[j,k,AI,AI]
  have F:nv (mkRat (sg s m) d)=nvS (negQ (mkRat (sg s m) d)) (str (dec (m / Nat.gcd m d))) (str (dec (d / Nat.gcd m d))):=by
   unfold nv;rw[j,k]
  rw[F];by_cases h:fitQ (mkRat (sg s m) d)
  ·rw[ifp h,ifp (hf.1 h)]
  rw[ifn h,ifn (λe=>h (hf.2 e))]
 ·rw[B];cases s
  ·left;refine⟨rfl,?_⟩;rw[decide_eq_false_iff_not,Ix];simp
  right;refine⟨rfl,?_⟩
  by_cases z:m=0
  ·subst z;rw[CG,Lib.toList_data];rfl
  have:(decide (sg true m<0))=true:=by rw[decide_eq_true_eq,Ix];exact⟨rfl,z⟩
  rw[this];exact BU (l:=[48]) (λe=>z (CF ((by have:=congrArg bts e;rw[AP,AP]at this;exact this:dec m=[48]).trans CG.symm)))
 ·rw[AI];exact C
 rw[AI];exact D
variable{wk:World}{p q:Bool}{c d g i j:ByteArray}
def Ag{W a b:World}(h:Below W.heap.size W a)(hb:Below a.heap.size a b):Below W.heap.size W b:=h.trans<|hb.mono h.size
def WR(p q:Bool)(xn xd yn yd:ByteArray)(w:World):World :=
 ((w.alloc (.cells #[.bool p,.string xn,.string xd] 189)).alloc (.cells #[.bool q,.string yn,.string yd] 189)).alloc (.cells #[.bool false,.string ⟨#[]⟩,.string ⟨#[]⟩] 189)
def GN(p q:Bool)(d c h g:ByteArray)(w:World):Below w.heap.size w (WR p q d c h g w):=by
 unfold WR;exact((blr.alloc nlr _).alloc (by simp) _).alloc (by simp;omega) _
def DU(h:Below (WR p q g d j i w).heap.size (WR p q g d j i w) wk):
  Below (WR p q g d j i w).heap.size (WR p q g d j i w) wk/\
  wk.cell? (Ad w.heap.size 0)=some (.bool p)/\wk.cell? (Ad w.heap.size 1)=some (.string g)/\wk.cell? (Ad w.heap.size 2)=some (.string d)/\
  wk.cell? (Ad (w.heap.size+1) 0)=some (.bool q)/\wk.cell? (Ad (w.heap.size+1) 1)=some (.string j)/\wk.cell? (Ad (w.heap.size+1) 2)=some (.string i):=by
 have c:∀k,k<3->w.heap.size+k<(WR p q g d j i w).heap.size:=by intro k l;unfold WR;simp;omega
 refine⟨h,?_,?_,?_,?_,?_,?_⟩
 ·exact(h.cell (p:=(Ad w.heap.size 0)) (c 0 (by omega))).trans (by simp[WR,go_sem])
 ·exact(h.cell (p:=(Ad w.heap.size 1)) (c 0 (by omega))).trans (by simp[WR,go_sem])
 ·exact(h.cell (p:=(Ad w.heap.size 2)) (c 0 (by omega))).trans (by simp[WR,go_sem])
 ·exact(h.cell (p:=(Ad (w.heap.size+1) 0)) (c 1 (by omega))).trans (by simp[WR,go_sem])
 ·exact(h.cell (p:=(Ad (w.heap.size+1) 1)) (c 1 (by omega))).trans (by simp[WR,go_sem])
 exact(h.cell (p:=(Ad (w.heap.size+1) 2)) (c 1 (by omega))).trans (by simp[WR,go_sem])
def ER(h:Below (WR p q d c i g w).heap.size (WR p q d c i g w) wk):
  wk.cell? (Ad (w.heap.size+1+1) 0)=some (.bool false)/\wk.cell? (Ad (w.heap.size+1+1) 1)=some (.string ⟨#[]⟩)/\wk.cell? (Ad (w.heap.size+1+1) 2)=some (.string ⟨#[]⟩)/\
  wk.frozen? (Ad (w.heap.size+1+1) 0)=false/\wk.frozen? (Ad (w.heap.size+1+1) 1)=false/\wk.frozen? (Ad (w.heap.size+1+1) 2)=false:=by
 have e:w.heap.size+1+1=((w.alloc (.cells #[.bool p,.string d,.string c] 189)).alloc (.cells #[.bool q,.string i,.string g] 189)).heap.size:=by simp
 rw[e];obtain⟨m,o,s,j,k,l,_⟩:=res3 h;exact⟨m,o,s,j,k,l⟩
def Np{P:Program}{fn:Func}{R:Ending->World->Prop}{c:List PanicEntry}{a:Act}{S:World->Prop}{G:Act->World->Prop}{g:Act->World->Prop}
  (_:Shut (∀a w,S w->(S w->G a w)->g a w)) (d:Tmp) (v:Value) (h:bodyPost P fn R (.panic c) a w) (_:Hd False->g (a.put (some d) v) w):bodyPost P fn R (.panic c) a w:=h
def CB(h:Below (WR p q d c i g w).heap.size (WR p q d c i g w) wk):Below (w.heap.size+1+1) (WR p q d c i g w) wk:=by
 refine h.mono ?_;unfold WR;simp
def Cz{k:ByteArray}(h:Below (w.heap.size+1+1) (WR p q i g k j w) wk):
  Below (w.heap.size+1+1) (WR p q i g k j w) wk/\
  wk.cell? (Ad w.heap.size 0)=some (.bool p)/\wk.cell? (Ad w.heap.size 1)=some (.string i)/\wk.cell? (Ad w.heap.size 2)=some (.string g)/\
  wk.cell? (Ad (w.heap.size+1) 0)=some (.bool q)/\wk.cell? (Ad (w.heap.size+1) 1)=some (.string k)/\wk.cell? (Ad (w.heap.size+1) 2)=some (.string j):=by
 have c:w.heap.size<w.heap.size+1+1:=by omega
 have d:w.heap.size+1<w.heap.size+1+1:=by omega
 refine⟨h,?_,?_,?_,?_,?_,?_⟩
 ·exact(h.cell (p:=(Ad w.heap.size 0)) c).trans (by simp[WR,go_sem])
 ·exact(h.cell (p:=(Ad w.heap.size 1)) c).trans (by simp[WR,go_sem])
 ·exact(h.cell (p:=(Ad w.heap.size 2)) c).trans (by simp[WR,go_sem])
 ·exact(h.cell (p:=(Ad (w.heap.size+1) 0)) d).trans (by simp[WR,go_sem])
 ·exact(h.cell (p:=(Ad (w.heap.size+1) 1)) d).trans (by simp[WR,go_sem])
 exact(h.cell (p:=(Ad (w.heap.size+1) 2)) d).trans (by simp[WR,go_sem])
end
end Go.Proofs.YteappjogmnogcaaGreatDoor
