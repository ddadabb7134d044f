/- Parts. -/
import Derived.Test.YtpldocnhbdlgfaaGreatDoorPb06
namespace Go.Proofs.YtpldocnhbdlgfaaGreatDoor
set_option maxRecDepth 100000
set_option linter.all false
set_option maxHeartbeats 16000000
open Go Tryz
section
open Go.RowKit
def WP(s:ByteArray)(w:World)(D:1<=s.size)(E:s.size<=1000)(p:s.size=1\/(bts s).headD 0≠48):
  Calls prog 176 #[.string s] w λe w'=>e=.returned (.bool (dgts (bts s)))/\w=w':=by
 have C:0<s.size:=by omega
 have A:decide ((s.size:Int)<1)=false:=by simp;omega
 have l:decide ((1000:Int)<(s.size:Int))=false:=by simp;omega
 have d:((s[0].toNat:Int)==48)=false\/(((s[0].toNat:Int)==48)=true/\decide ((1:Int)<(s.size:Int))=false):=by
  rcases p with h|h
  ·by_cases F:s[0].toNat=48
   ·right;exact⟨by rw[beq_iff_eq];omega,by simp;omega⟩
   left;rw[beq_eq_false_iff_ne];omega
  left;exact PU _ (by rw[<-FL s C];exact h)
 clear p
 rcases d with u|⟨u,B⟩
 all_goals
  go_enter func176,ntmps176
  go_wp2_with fail
  clear A l u
  try clear B
  go_loop [3] (λi=>∃k:Nat,k<=s.size/\i=.int .i64 k/\dgts ((bts s).take k)=true) (λi=>s.size-(intOf i).toNat)
  case atStart=>exact⟨0,Nat.zero_le _,rfl,rfl⟩
  obtain⟨k,G,rfl,j⟩:=hrel;replace j:=qh j;by_cases c:k<s.size
  ·by_cases o:(s[k].toNat:Int)<48
   ·go_wp2;go_ret;exact⟨AI (GY s k c (Jk o)).symm,rfl⟩
   by_cases m:(57:Int)<(s[k].toNat:Int)
   ·have g:decide ((s[k].toNat:Int)<48)=false:=by simp;omega
    go_wp2;go_ret;exact⟨AI (GY s k c (Jj m)).symm,rfl⟩
   have g:decide ((s[k].toNat:Int)<48)=false:=by simp;omega
   have z:decide ((57:Int)<(s[k].toNat:Int))=false:=by simp;omega
   go_wp2
   go_round
   case rel=>exact⟨k+1,by omega,by go_num,by rw[EB s k c,DU,j.o,Jl (by omega) (by omega)];rfl⟩
   simp[intOf];omega
  go_wp2;go_ret;exact⟨AI (by rw[<-j.o,List.take_of_length_le (by rw[Aq];omega)]),rfl⟩
def Cl(s:ByteArray)(w:World)(p:s.size<=maxLen):
  Calls prog 176 #[.string s] w λe w'=>e=.returned (.bool (As (bts s)))/\w=w':=by
 unfold maxLen at p;by_cases g:s.size=0;have c:As (bts s)=false:=by simp[As,Aq,g]
 have k:decide ((s.size:Int)<1)=true:=by simp;omega
 have i:=qh c;clear c;have l:(s.size:Int)<1:=by omega
 clear g
 rotate_left
 by_cases j:1000<s.size;have c:As (bts s)=false:=by simp[As,Aq];intros;omega
 have i:=qh c;clear c;have k:decide ((s.size:Int)<1)=false:=by simp;omega
 have l:(1000:Int)<(s.size:Int):=by omega
 clear g j
 rotate_left
 by_cases d:s.size=1\/(bts s).headD 0≠48
 ·refine(WP s w (by omega) (by omega) d).mono λe w' ⟨o,A⟩=>⟨?_,A⟩;rw[o];have:As (bts s)=dgts (bts s):=by
   cases hd:dgts (bts s) with
   |false=>simp[As,hd]
   |true=>exact IG (by rw[Aq];omega) (by rw[Aq];omega) (by rw[Aq];exact d) hd
  rw[this]
 have c:As (bts s)=false:=by
  cases z:As (bts s) with
  |false=>rfl
  |true=>exact absurd (by have:=(Bb z).2.2.1;rw[Aq]at this;exact this) d
 have i:=qh c;clear c;have u:0<s.size:=by omega
 have l:((s[0].toNat:Int)==48)=true:=by
  have:(bts s).headD 0=48:=by
   by_cases h:(bts s).headD 0=48
   ·exact h
   exact absurd (Or.inr h) d
  rw[FL s u]at this;rw[this];rfl
 have B:(1:Int)<(s.size:Int):=by
  by_cases h:s.size=1
  ·exact absurd (Or.inl h) d
  omega
 have k:decide ((s.size:Int)<1)=false:=by simp;omega
 have m:decide ((1000:Int)<(s.size:Int))=false:=by simp;omega
 clear g j d
 all_goals
  go_enter func176,ntmps176
  go_wp2;go_ret;exact⟨AI i.o.symm,rfl⟩
variable{xs:List Nat}{k:Nat}
def dval:List Nat->Nat | []=>0|x::xs=>x+10*dval xs
def Dig(xs:List Nat):Prop:=∀i,nth xs i<10
def Jn:Dig []:=λi=>by rw[AP _ _ nzl];omega
def Mu{x:Nat}(h:Dig xs)(d:x<10):Dig (xs++[x]):=λi=>by
 by_cases c:i<xs.length
 ·rw[FU _ _ _ c];exact h i
 rw[FV _ _ _ (by omega)];cases i-xs.length with
 |zero=>exact d
 |succ j=>show 0<10;omega
def GZ(h:Dig xs)(k:Nat):Dig (xs.take k):=λi=>by
 by_cases c:i<k
 ·rw[Fg _ _ _ c];exact h i
 rw[AP _ _ (by rw[List.length_take];omega)];omega
theorem Ju(xs c:List Nat):dval (xs++c)=dval xs+10 ^ xs.length*dval c:=by
 induction xs with
 |nil=>simp[dval]
 |cons x xs ih=>simp only[List.cons_append,dval,ih,List.length_cons,Nat.pow_succ];rw[Nat.mul_add,Nat.mul_comm (10 ^ xs.length) 10,Nat.mul_assoc];omega
theorem Jv(xs:List Nat)(x:Nat):dval (xs++[x])=dval xs+10 ^ xs.length*x:=by rw[Ju];simp[dval]
theorem EQ(xs:List Nat)(k:Nat):dval (xs.take (k+1))=dval (xs.take k)+10 ^ k*nth xs k:=by
 by_cases h:k<xs.length
 ·rw[Iy xs k h,Jv,List.length_take,Nat.min_eq_left (by omega)]
 rw[List.take_of_length_le (by omega),List.take_of_length_le (by omega),AP xs k (by omega)];simp
def Mz(h:∀i,nth xs i=0):dval xs=0:=by
 induction xs with
 |nil=>rfl
 |cons x xs ih=>simp only[dval];rw[ih (λi=>h (i+1)),show x=0 from h 0]
theorem FH(h:Dig xs):dval xs<10 ^ xs.length:=by
 induction xs with
 |nil=>simp[dval]
 |cons x xs ih =>
  have c:=h 0;rw[JZ]at c;have:=ih<|λi=>h (i+1);simp only[dval,List.length_cons,Nat.pow_succ];omega
def SP(c:∀j,k<=j->nth xs j=0):dval (xs.take k)=dval xs:=by
 have h:=Ju (xs.take k) (xs.drop k);rw[List.take_append_drop]at h;rw[h,Mz (xs:=xs.drop k) (λi=>by rw[FW];exact c _ (by omega))];simp
def byteOf(d:Nat):UInt8:=UInt8.ofNat<|48+d
def byteOf_toNat{d:Nat}(h:d<10):(byteOf d).toNat=48+d:=u8n (by omega)
def bytesOf(xs:List Nat):List UInt8:=xs.reverse.map byteOf
theorem RD(xs:List Nat)(x:Nat):bytesOf (xs++[x])=byteOf x::bytesOf xs:=by simp[bytesOf]
theorem Jc(xs:List Nat):(bytesOf xs).length=xs.length:=by simp[bytesOf]
theorem Mf(x:Nat)(xs:List Nat):bytesOf (x::xs)=bytesOf xs++[byteOf x]:=by simp[bytesOf]
theorem NO(h:Dig xs):num (bytesOf xs)=dval xs/\dgts (bytesOf xs)=true:=by
 induction xs with
 |nil=>exact⟨rfl,rfl⟩
 |cons x xs ih =>
  obtain⟨i1,d⟩:=ih<|λi=>h (i+1);have c:x<10:=h 0;rw[Mf,Dq,DU,i1,d,byteOf_toNat c];refine⟨by simp only[dval];omega,?_⟩;simp only[dgt,byteOf_toNat c];simp;omega
def Mo(h:Dig xs)(m:1<=k)(l:k<=xs.length)(p:∀j,k<=j->nth xs j=0)(d:k=1\/nth xs (k-1)≠0):
  dec (dval xs)=bytesOf (xs.take k):=by
 rw[<-SP p,<-(NO (GZ h k)).1];have o:(bytesOf (xs.take k)).length=k:=by rw[Jc,List.length_take];omega
 have hd:=(NO (GZ h k)).2
 rcases d with rfl|d
 ·obtain⟨x,g⟩:∃x,xs.take 1=[x]:=by
   cases xs with
   |nil=>simp at l
   |cons x xs=>exact⟨x,rfl⟩
  have c:x<10:=by have:=GZ h 1 0;rw[g]at this;exact this
  rw[g];show dec (num [byteOf x])=[byteOf x];have:num [byteOf x]=x:=by simp only[num,List.foldl];rw[byteOf_toNat c];omega
  rw[this,BA c];rfl
 refine(Mq k _ o (by omega) ?_ hd).2;have e:xs.take k=xs.take (k-1)++[nth xs (k-1)]:=by
  have:=Iy xs (k-1) (by omega)
  rwa [show k-1+1=k by omega]at this
 rw[e,RD,List.headD_cons];intro i;have:=congrArg UInt8.toNat i;rw[byteOf_toNat (h (k-1))]at this;simp at this;exact d this
def digL(l:List UInt8):List Nat:=l.reverse.map λc=>c.toNat-48
theorem Cc(l:List UInt8):(digL l).length=l.length:=by simp[digL]
theorem Cr{l:List UInt8}(h:dgts l=true):Dig (digL l)/\dval (digL l)=num l:=by
 suffices h':∀(k:Nat) (l:List UInt8),l.length=k->dgts l=true->Dig (digL l)/\dval (digL l)=num l from h' _ l rfl h
 intro k
 induction k with
 |zero =>
      intro l d _;have:l=[]:=List.length_eq_zero_iff.1 d;subst this;exact⟨Jn,rfl⟩
 |succ k ih =>
  intro l d g;obtain⟨m,c,rfl⟩:=Hm l (by intro e;subst e;simp at d);rw[DU]at g;simp only[Bool.and_eq_true,dgt,decide_eq_true_eq]at g;simp at d;obtain⟨i1,j⟩:=ih m d g.1;have e:digL (m++[c])=(c.toNat-48)::digL m:=by simp[digL]
  rw[e,Dq];refine⟨λi=>?_,by simp only[dval];omega⟩;cases i with
  |zero=>show c.toNat-48<10;omega
  |succ i=>exact i1 i
def SA(s:ByteArray)(i:Nat)(h:i<s.size):nth (digL (bts s)) i=s[s.size-1-i].toNat-48:=by
 rw[CZ _ _ (by rw[Cc,Aq];exact h)];unfold digL;rw[List.getElem_map,List.getElem_reverse]
 congr 2
def Hg:(prog.info? 3).map (λi=>(i.zero,i.size,i.bytes))=some (some (.int .i64 0),1,8):=by kernel_rfl
def MM:(prog.info? 5).map (λi=>(i.zero,i.size,i.bytes))=some (some (.int .u8 0),1,1):=by kernel_rfl
def ListEnd(xs:List Nat)(w:World)(e:Ending)(w':World):Prop:=∃v,e=.returned v/\Own w' w.heap.size 3 .i64 v xs/\Below w.heap.size w w'
def Eb(s:ByteArray)(w:World)(P:s.size<=100000)(hd:dgts (bts s)=true):
  Calls prog 204 #[.string s] w (ListEnd (digL (bts s)) w):=by
 obtain⟨i0,hi,F,G,H⟩:=info_parts Hg;have I:=qh hd;clear hd;have j:=Cc<|bts s;rw[Aq]at j;replace j:=qh j
 go_enter func204,ntmps204
 go_wp2_with fail
 go_loopw [3,4] (λv i wr=>∃k:Nat,k<=s.size/\i=.int .i64 ((s.size:Int)-1-(k:Int))/\Own wr w.heap.size 3 .i64 v ((digL (bts s)).take k)/\Below w.heap.size w wr) (λ_ i _=>(intOf i+1).toNat)
 case atStart=>exact⟨0,Nat.zero_le _,by go_num,Own.nil _ _ _ _,blr⟩
 obtain⟨k,O,rfl,c,hb⟩:=hrel;have d:((digL (bts s)).take k).length=k:=by rw[List.length_take,j.o];omega
 obtain⟨J,D,rfl⟩:=c.shape;rw[d]at c ⊢;replace c:=qh c;have A:=qh hb;clear hb;have E:=A.o.size;replace d:=qh d;by_cases z:k<s.size
 ·have hd:=Jm I.o (s.size-1-k) (by rw[Aq];omega);rw[Ja s _ (by omega)]at hd;have K:(48:Int)<=(s[s.size-1-k].toNat:Int):=by omega
  have L:(s[s.size-1-k].toNat:Int)<=57:=by omega
  have m:=SA s k z;have p:(digL (bts s)).take (k+1)=(digL (bts s)).take k++[s[s.size-1-k].toNat-48]:=by rw[Iy _ _ (by rw[j.o];exact z),m]
  replace p:=qh p;clear m hd;have l:wr.ownsRow w.heap.size 3 1 (.slice J k D) k (vals .i64 ((digL (bts s)).take k)):=by have:=c.o.raw;rwa [d.o]at this
  replace l:=qh l;have o:((s[s.size-1-k].toNat:Int)-48)=((s[s.size-1-k].toNat-48:Nat):Int):=by omega
  replace o:=qh o
  go_wp2_with (at_builtin;refine wpList_append_own _ rfl (.tmp 12) (.tmp 18) 26 rfl w.heap.size 3 i0 (.int .i64 0) 1 8 underlying26 hi F G H rfl (by decide) _ _ _ rfl (World.ownsRow.alloc l.o _) (Ad wr.heap.size 0) 1 1 [.int .i64 ((s[s.size-1-k].toNat:Int)-48)] rfl rfl (cell_one_new _ _ _) (one_cell _ _) (by unfold maxLen;omega) (by omega) (by simp;omega) ?_;intro Q R g h _)
  rw[o.o]at g;obtain⟨u,hb⟩:=c.o.appended A.o E (by rw[d.o];exact g) h;clear g h;rw[<-p.o]at u;have C:=qh u;clear u;have B:=qh hb;clear hb;go_wp2;go_roundw
  case rel=>exact⟨k+1,by omega,by go_num,C.o,B.o⟩
  simp[intOf];omega
 go_wp2;go_ret;have N:k=s.size:=by omega
 have u:=c.o;have e:(digL (bts s)).take k=digL (bts s):=List.take_of_length_le (by rw[j.o];omega);rw[e]at u;exact⟨_,rfl,u,A.o⟩
def Ev(v:Value)(xs:List Nat)(i:Nat)(w:World)(h:Sl w .i64 v xs)(hi:i<=1000000):
  Calls prog 205 #[v,.int .i64 (i:Int)] w λe w'=>e=.returned (.int .i64 ((nth xs i:Nat):Int))/\w=w':=by
 obtain⟨o,p,bx,u,rfl,d,m,j,g,c⟩:=h.open;unfold maxLen at j;clear h;by_cases k:i<xs.length
 ·obtain rfl:=d (by omega);have s:=c i k;clear c g
  go_enter func205,ntmps205
  go_wp2;go_ret;exact⟨rfl,rfl⟩
 have l:=AP xs i (by omega);replace l:=qh l;clear c d g
 go_enter func205,ntmps205
 go_wp2;go_ret;exact⟨BR (by rw[l.o];rfl),rfl⟩
def Mg(xs:List Nat){k m:Nat}(g:k<=xs.length)(d:0<m)(h:m<=k)(c:nth xs (m-1)<10):
  (bytesOf ((xs.take k).drop (m-1))).map (·.toNat)=(bytesOf ((xs.take k).drop m)).map (·.toNat)++[48+nth xs (m-1)]:=by
 rw[List.drop_eq_getElem_cons (by rw[List.length_take];omega),show m-1+1=m by omega,Mf,List.map_append]
 congr 1
 have e:(xs.take k)[m-1]'(by rw[List.length_take];omega)=nth xs (m-1):=by
  rw[CZ xs _ (by omega)];simp
 rw[e];simp[byteOf_toNat c]
theorem NX{w:World}{B g cap n:Nat}{l:List UInt8}(h:Own w B 5 .u8 (.slice (some (Ad g 0)) n cap) (l.map (·.toNat)))(hn:l.length=n):
  ∀(j:Nat) (c:j<l.length),w.cell? (((Ad g 0):Addr).add j)=some (.int .u8 ((l[j].toNat:Nat):Int)):=λj c=>by
 have d:=h.cell (by rw[List.length_map];exact hn) j (by omega);have e:((Ad g 0):Addr).add j=(Ad g j):=by unfold Addr.add;split<;>simp_all
 rw[e,d,CZ _ _ (by rw[List.length_map];exact c),List.getElem_map]
theorem Im(v:Value)(xs:List Nat)(w:World)(h:Sl w .i64 v xs)(hd:Dig xs)(hl:xs.length<=100000):
  Calls prog 207 #[v] w λe w'=>e=.returned (.string (str (dec (dval xs))))/\Below w.heap.size w w':=by
 obtain⟨i0,hi,a9,b0,b1⟩:=info_parts MM;obtain⟨ax,cx,bx,ox,rfl,S,b4,a8,T,s⟩:=h.open;unfold maxLen at a8;replace hd:=qh hd;clear h;replace S:=qh S;replace s:=qh s;have X:=qh T;clear T
 go_enter func207,ntmps207
 go_wp2_with fail
 go_loopw [3] (λn wr=>∃k:Nat,k<=xs.length/\n=.int .i64 (k:Int)/\(∀j,k<=j->nth xs j=0)/\(1<=xs.length->1<=k)/\Below w.heap.size w wr) (λn _=>(intOf n).toNat)
 case atStart=>exact⟨xs.length,nlr,rfl,λj hj=>AP xs j hj,λh=>h,blr⟩
 obtain⟨k,hk,rfl,hz,U,hb⟩:=hrel;replace hz:=qh hz;replace U:=qh U;have HB:=qh hb;clear hb;by_cases b5:1<k
 ·obtain rfl:=S.o (by omega);have T:=X.o (by omega);have hc:=(HB.o.cell (p:=(Ad bx (ox+(k-1)))) T).trans (s.o (k-1) (by omega));have hg:(1:Int)<(k:Int):=by omega
  by_cases h0:nth xs (k-1)=0
  ·have I:(((nth xs (k-1):Nat):Int)==0)=true:=by rw[beq_iff_eq];omega
   replace h0:=qh h0;go_wp2;go_roundw
   case rel=>exact⟨k-1,by omega,by go_num,λj hj=>by
    by_cases e:j=k-1
    ·rw[e];exact h0.o
    exact hz.o j (by omega),λ_=>by omega,HB.o⟩
   simp[intOf];omega
  have I:(((nth xs (k-1):Nat):Int)==0)=false:=by rw[beq_eq_false_iff_ne];omega
  replace h0:=qh h0;have E:k=0\/k=1\/nth xs (k-1)≠0:=.inr<|.inr h0.o;have G:=qh E;clear E;obtain⟨wo,rfl⟩:∃wo:World,wo=wr:=⟨_,rfl⟩;have Z:=qh hk
  go_wp2_with fail
  go_loopw [4,5] (λv i wr=>∃m:Nat,m<=k/\i=.int .i64 ((m:Int)-1)/\Own wr w.heap.size 5 .u8 v ((bytesOf ((xs.take k).drop m)).map (·.toNat))/\Below w.heap.size w wr) (λ_ i _=>(intOf i+1).toNat)
  case atStart=>exact⟨k,nlr,rfl,by rw[List.drop_of_length_le (by rw[List.length_take];omega)];exact Own.nil _ _ _ _,HB.o⟩
  obtain⟨m,hm,rfl,z,J⟩:=hrel;have l:((bytesOf ((xs.take k).drop m)).map (·.toNat)).length=k-m:=by rw[List.length_map,Jc,List.length_drop,List.length_take];omega
  obtain⟨ad,H,rfl⟩:=z.shape;rw[l]at z ⊢;have R:=qh z;clear z;have A:=qh J;clear J;have a5:=A.o.size;have c:=qh l;clear l;by_cases a4:0<m
  ·skip
   have L:=X.o (by omega);have b2:=(A.o.cell (p:=(Ad bx (ox+(m-1)))) L).trans (s.o (m-1) (by omega));have b3:((nth xs (m-1):Nat):Int)<=9:=by have:=hd.o<|m-1;omega
   have Q:=Mg xs hk a4 hm (hd.o (m-1));have a2:=qh Q;clear Q;have D:wr.ownsRow w.heap.size 5 1 (.slice ad (k-m) H) (k-m) (vals .u8 ((bytesOf ((xs.take k).drop m)).map (·.toNat))):=by have:=R.o.raw;rwa [c.o]at this
   have F:=qh D;clear D;have N:(48+((nth xs (m-1):Nat):Int))=((48+nth xs (m-1):Nat):Int):=by omega
   have Y:=qh N;clear N
   go_wp2_with (at_builtin;refine wpList_append_own _ rfl (.tmp 26) (.tmp 33) 217 rfl w.heap.size 5 i0 (.int .u8 0) 1 1 underlying217 hi a9 b0 b1 rfl (by decide) _ _ _ rfl (World.ownsRow.alloc F.o _) (Ad wr.heap.size 0) 1 1 [.int .u8 (48+((nth xs (m-1):Nat):Int))] rfl rfl (cell_one_new _ _ _) (one_cell _ _) (by unfold maxLen;omega) (by omega) (by simp;omega) ?_;intro v' w1 o u _)
   rw[Y.o]at o;obtain⟨C,hb⟩:=R.o.appended A.o a5 (by rw[c.o];exact o) u;clear o u;rw[<-a2.o]at C;have a1:=qh C;clear C;have W:=qh hb;clear hb;go_wp2;go_roundw
   case rel=>exact⟨m-1,by omega,by go_num,a1.o,W.o⟩
   simp[intOf];omega
  obtain rfl:m=0:=by omega
  rw[List.drop_zero]at R;rw[Nat.sub_zero,List.drop_zero]at c;rw[Nat.sub_zero]
  rcases Nat.eq_zero_or_pos k with B|B
  ·have I:(((k:Nat):Int)==0)=true:=by rw[beq_iff_eq];omega
   have d:str (dec (dval xs))=⟨#[48]⟩:=by
    have:xs=[]:=List.length_eq_zero_iff.1 (by
     rcases Nat.eq_zero_or_pos xs.length with h|h
     ·exact h
     have:=U.o h;omega)
    rw[this];show str (dec 0)=_;rw[BA (by omega)];rfl
   have HR:=qh d;clear d B;go_wp2;go_ret;exact⟨Dr HR.o.symm,A.o⟩
  have I:(((k:Nat):Int)==0)=false:=by rw[beq_eq_false_iff_ne];omega
  have C:=R.o;rw[Nat.sub_zero]at C;obtain⟨g,a7,hv,_⟩:=C.some (by rw[c.o];exact B);rw[c.o]at hv;simp only[Value.slice.injEq,true_and]at hv;obtain⟨rfl,rfl⟩:=hv;have O:=run_convert_bytes_back (P:=prog) wr 217 9 5 (Ad g 0) H (bytesOf (xs.take k)) underlying217 underlying5 underlying9 (NX C (by rw[List.length_map]at c;exact c.o));have K:(bytesOf (xs.take k)).length=k:=by have:=c.o;rwa [List.length_map]at this
  rw[K]at O;have d:(⟨(bytesOf (xs.take k)).toArray⟩:ByteArray)=str (dec (dval xs)):=by
   have a6:k=1\/nth xs (k-1)≠0:=by
    rcases G.o with h|h|h
    ·omega
    ·exact .inl h
    exact .inr h
   rw[Mo hd.o B Z.o hz.o a6];rfl
  rw[d]at O;clear K d C B;go_wp2;go_ret;exact⟨rfl,A.o⟩
 have hg:decide ((1:Int)<(k:Int))=false:=by simp;omega
 have E:k=0\/k=1\/nth xs (k-1)≠0:=by omega
 have G:=qh E;clear E;obtain⟨wo,rfl⟩:∃wo:World,wo=wr:=⟨_,rfl⟩;have Z:=qh hk
 go_wp2_with fail
 go_loopw [4,5] (λv i wr=>∃m:Nat,m<=k/\i=.int .i64 ((m:Int)-1)/\Own wr w.heap.size 5 .u8 v ((bytesOf ((xs.take k).drop m)).map (·.toNat))/\Below w.heap.size w wr) (λ_ i _=>(intOf i+1).toNat)
 case atStart=>exact⟨k,nlr,rfl,by rw[List.drop_of_length_le (by rw[List.length_take];omega)];exact Own.nil _ _ _ _,HB.o⟩
 obtain⟨m,hm,rfl,z,J⟩:=hrel;have l:((bytesOf ((xs.take k).drop m)).map (·.toNat)).length=k-m:=by rw[List.length_map,Jc,List.length_drop,List.length_take];omega
 obtain⟨ad,H,rfl⟩:=z.shape;rw[l]at z ⊢;have R:=qh z;clear z;have A:=qh J;clear J;have a5:=A.o.size;have c:=qh l;clear l;by_cases a4:0<m
 ·obtain rfl:=S.o (by omega);have L:=X.o (by omega);have b2:=(A.o.cell (p:=(Ad bx (ox+(m-1)))) L).trans (s.o (m-1) (by omega));have b3:((nth xs (m-1):Nat):Int)<=9:=by have:=hd.o<|m-1;omega
  have Q:=Mg xs hk a4 hm (hd.o (m-1));have a2:=qh Q;clear Q;have D:wr.ownsRow w.heap.size 5 1 (.slice ad (k-m) H) (k-m) (vals .u8 ((bytesOf ((xs.take k).drop m)).map (·.toNat))):=by have:=R.o.raw;rwa [c.o]at this
  have F:=qh D;clear D;have N:(48+((nth xs (m-1):Nat):Int))=((48+nth xs (m-1):Nat):Int):=by omega
  have Y:=qh N;clear N
  go_wp2_with (at_builtin;refine wpList_append_own _ rfl (.tmp 26) (.tmp 33) 217 rfl w.heap.size 5 i0 (.int .u8 0) 1 1 underlying217 hi a9 b0 b1 rfl (by decide) _ _ _ rfl (World.ownsRow.alloc F.o _) (Ad wr.heap.size 0) 1 1 [.int .u8 (48+((nth xs (m-1):Nat):Int))] rfl rfl (cell_one_new _ _ _) (one_cell _ _) (by unfold maxLen;omega) (by omega) (by simp;omega) ?_;intro v' w1 o u _)
  rw[Y.o]at o;obtain⟨C,hb⟩:=R.o.appended A.o a5 (by rw[c.o];exact o) u;clear o u;rw[<-a2.o]at C;have a1:=qh C;clear C;have W:=qh hb;clear hb;go_wp2;go_roundw
  case rel=>exact⟨m-1,by omega,by go_num,a1.o,W.o⟩
  simp[intOf];omega
 obtain rfl:m=0:=by omega
 rw[List.drop_zero]at R;rw[Nat.sub_zero,List.drop_zero]at c;rw[Nat.sub_zero]
 rcases Nat.eq_zero_or_pos k with B|B
 ·have I:(((k:Nat):Int)==0)=true:=by rw[beq_iff_eq];omega
  have d:str (dec (dval xs))=⟨#[48]⟩:=by
   have:xs=[]:=List.length_eq_zero_iff.1 (by
    rcases Nat.eq_zero_or_pos xs.length with h|h
    ·exact h
    have:=U.o h;omega)
   rw[this];show str (dec 0)=_;rw[BA (by omega)];rfl
  have HR:=qh d;clear d B;go_wp2;go_ret;exact⟨Dr HR.o.symm,A.o⟩
 have I:(((k:Nat):Int)==0)=false:=by rw[beq_eq_false_iff_ne];omega
 have C:=R.o;rw[Nat.sub_zero]at C;obtain⟨g,a7,hv,_⟩:=C.some (by rw[c.o];exact B);rw[c.o]at hv;simp only[Value.slice.injEq,true_and]at hv;obtain⟨rfl,rfl⟩:=hv;have O:=run_convert_bytes_back (P:=prog) wr 217 9 5 (Ad g 0) H (bytesOf (xs.take k)) underlying217 underlying5 underlying9 (NX C (by rw[List.length_map]at c;exact c.o));have K:(bytesOf (xs.take k)).length=k:=by have:=c.o;rwa [List.length_map]at this
 rw[K]at O;have d:(⟨(bytesOf (xs.take k)).toArray⟩:ByteArray)=str (dec (dval xs)):=by
  have a6:k=1\/nth xs (k-1)≠0:=by
   rcases G.o with h|h|h
   ·omega
   ·exact .inl h
   exact .inr h
  rw[Mo hd.o B Z.o hz.o a6];rfl
 rw[d]at O;clear K d C B;go_wp2;go_ret;exact⟨rfl,A.o⟩
variable{m n:Nat}
def Hw{p q:List UInt8}(h:dgts (p++q)=true):num (p++q)=num q+10 ^ q.length*num p:=by
 have c:dgts p=true/\dgts q=true:=by simpa [dgts,List.all_append] using h
 rw[<-(Cr h).2,<-(Cr c.1).2,<-(Cr c.2).2];have:digL (p++q)=digL q++digL p:=by simp[digL]
 rw[this,Ju,Cc]
def CmpB(s t:ByteArray)(c:Int):Prop :=
 (s.size<t.size/\c=-1)\/(t.size<s.size/\c=1)\/(s.size=t.size/\((bts s=bts t/\c=0)\/
  ∃i,i<s.size/\(bts s).take i=(bts t).take i/\(((bts s).getD i 0).toNat<((bts t).getD i 0).toNat/\c=-1\/((bts t).getD i 0).toNat<((bts s).getD i 0).toNat/\c=1)))
def NP{l r:List UInt8}(m:dgts l=true)(o:dgts r=true)(F:l.length=r.length)(i:Nat)(hi:i<l.length)(u:l.take i=r.take i)(z:(l.getD i 0).toNat<(r.getD i 0).toNat):num l<num r:=by
 have j:l=l.take i++(l.getD i 0::l.drop (i+1)):=by
  rw[List.getD_eq_getElem?_getD,List.getElem?_eq_getElem hi];simp
 have k:r=r.take i++(r.getD i 0::r.drop (i+1)):=by
  rw[List.getD_eq_getElem?_getD,List.getElem?_eq_getElem (by omega)];simp
 have g:(l.drop (i+1)).length=(r.drop (i+1)).length:=by rw[List.length_drop,List.length_drop,F]
 generalize l.take i=p at j u;generalize hcl:l.getD i 0=c at j z;generalize l.drop (i+1)=x at j g;generalize r.take i=p' at k u;generalize hcr:r.getD i 0=d at k z;generalize r.drop (i+1)=y at k g;subst u;rw[j]at m ⊢;rw[k]at o ⊢;have h:dgts (c::x)=true:=by simp only[dgts,List.all_append,Bool.and_eq_true]at m ⊢;exact m.2
 have C:dgts (d::y)=true:=by simp only[dgts,List.all_append,Bool.and_eq_true]at o ⊢;exact o.2
 have G:dgts x=true:=by simp only[dgts,List.all_cons,Bool.and_eq_true]at h ⊢;exact h.2
 have s:dgt c=true:=by simp only[dgts,List.all_cons,Bool.and_eq_true]at h;exact h.1
 rw[Hw m,Hw o];have A:num (c::x)=num x+10 ^ x.length*(c.toNat-48):=by
  have:=Hw (p:=[c]) (q:=x) h
  simpa [num] using this
 have B:num (d::y)=num y+10 ^ y.length*(d.toNat-48):=by
  have:=Hw (p:=[d]) (q:=y) C
  simpa [num] using this
 rw[A,B];simp only[List.length_cons,g];have D:=Ka x G;rw[g]at D;simp only[dgt,Bool.and_eq_true,decide_eq_true_eq]at s;have E:10 ^ y.length*(c.toNat-48+1)<=10 ^ y.length*(d.toNat-48):=Nat.mul_le_mul_left _ (by omega);rw[Nat.mul_add,Nat.mul_one]at E;omega
def Ji(h:(dec m).length<(dec n).length):m<n:=by
 rcases Nat.lt_or_ge m n with c|c
 ·exact c
 have:=(BK (n:=m) (k:=(dec m).length)).1 nlr;have:=(BK (n:=n) (k:=(dec m).length)).2 ⟨by omega,this.2⟩;omega
def RS{c:Int}(h:CmpB (str (dec m)) (str (dec n)) c):c=cmpN m n:=by
 unfold CmpB at h;simp only[AK,AH]at h
 rcases h with⟨h,rfl⟩|⟨h,rfl⟩|⟨h,⟨j,rfl⟩|⟨i,hi,g,⟨d,rfl⟩|⟨d,rfl⟩⟩⟩
 ·rw[Cq (Ji h)]
 ·rw[CV (Ji h)]
 ·rw[DT (CB j)]
 ·have:=NP (CW m) (CW n) h i hi g d;rw[CJ,CJ]at this;rw[Cq this]
 have:=NP (CW n) (CW m) h.symm i (by omega) g.symm d;rw[CJ,CJ]at this;rw[CV this]
theorem We(s t:ByteArray)(w:World)(I:s.size<=100000):
  Calls prog 208 #[.string s,.string t] w λe w'=>∃c,CmpB s t c/\e=.returned (.int .i64 c)/\Below w.heap.size w w':=by
 by_cases E:s.size<t.size
 ·have d:CmpB s t (-1):=.inl ⟨E,rfl⟩;have B:=qh d;clear d;have o:((s.size:Int) != (t.size:Int))=true:=by rw[bne_iff_ne];omega
  go_enter func208,ntmps208
  go_wp2;go_ret;exact⟨_,B.o,rfl,blr⟩
 by_cases F:t.size<s.size
 ·have d:CmpB s t 1:=.inr<|.inl ⟨F,rfl⟩;have B:=qh d;clear d;have o:((s.size:Int) != (t.size:Int))=true:=by rw[bne_iff_ne];omega
  go_enter func208,ntmps208
  go_wp2;go_ret;exact⟨_,B.o,rfl,blr⟩
 have G:s.size=t.size:=by omega
 have u:=qh G;have o:((s.size:Int) != (t.size:Int))=false:=by rw[bne_eq_false_iff_eq];omega
 clear E F G
 go_enter func208,ntmps208
 go_wp2_with fail
 clear o
 go_loopw [5] (λi wr=>∃k:Nat,k<=s.size/\i=.int .i64 (k:Int)/\(bts s).take k=(bts t).take k/\Below w.heap.size w wr) (λi _=>s.size-(intOf i).toNat)
 case atStart=>exact⟨0,Nat.zero_le _,rfl,rfl,blr⟩
 obtain⟨k,H,rfl,g,hb⟩:=hrel;replace g:=qh g;replace hb:=qh hb;by_cases j:k<s.size
 ·have m:k<t.size:=by have:=u.o;omega
  rcases Nat.lt_trichotomy s[k].toNat t[k].toNat with d|d|d
  ·have l:CmpB s t (-1):=.inr (.inr ⟨u.o,.inr ⟨k,j,g.o,.inl ⟨by rw[El s k j,El t k m];exact d,rfl⟩⟩⟩);have z:=qh l;clear l;have A:((s[k].toNat:Int) != (t[k].toNat:Int))=true:=by rw[bne_iff_ne];omega
   have D:(s[k].toNat:Int)<(t[k].toNat:Int):=by omega
   go_wp2_with fail
   go_quiet (fail)
   go_wp2_with fail
   go_quiet (fail)
   go_wp2;go_ret;exact⟨_,z.o,rfl,below_drewN (below_drewN hb.o _) _⟩
  ·have p:(bts s).take (k+1)=(bts t).take (k+1):=by
    rw[EB s k j,EB t k m,g.o,UInt8.toNat_inj.1 d]
   replace p:=qh p;have A:((s[k].toNat:Int) != (t[k].toNat:Int))=false:=by rw[bne_eq_false_iff_eq];omega
   have C:=qh d;clear d
   go_wp2_with fail
   go_quiet (fail)
   go_wp2;go_roundw
   case rel=>exact⟨k+1,by omega,by go_num,p.o,below_drewN hb.o _⟩
   simp[intOf];omega
  have l:CmpB s t 1:=.inr (.inr ⟨u.o,.inr ⟨k,j,g.o,.inr ⟨by rw[El s k j,El t k m];exact d,rfl⟩⟩⟩);have z:=qh l;clear l;have A:((s[k].toNat:Int) != (t[k].toNat:Int))=true:=by rw[bne_iff_ne];omega
  have D:decide (s[k].toNat<t[k].toNat)=false:=decide_eq_false (by omega);have C:=qh d;clear d
  go_wp2_with fail
  go_quiet (fail)
  go_wp2_with fail
  go_quiet (fail)
  go_wp2;go_ret;exact⟨_,z.o,rfl,below_drewN (below_drewN hb.o _) _⟩
 have l:CmpB s t 0:=.inr (.inr ⟨u.o,.inl ⟨by
  have h:=g.o
  rwa [List.take_of_length_le (by rw[Aq];omega),List.take_of_length_le (by rw[Aq];have:=u.o;omega)]at h,rfl⟩⟩)
 have z:=qh l;clear l;go_wp2;go_ret;exact⟨_,z.o,rfl,hb.o⟩
def Ku(m n:Nat)(w:World)(i:(dec m).length<=100000):
  Calls prog 208 #[.string (str (dec m)),.string (str (dec n))] w (CmpEnd m n w) :=
 (We _ _ w (by rw[AH];exact i)).mono λe j ⟨c,d,g,h⟩=>⟨by rw[g,RS d],h⟩
def Wc(s t:ByteArray)(w:World)(l:s.size<=maxLen)(m:t.size<=maxLen):
  Calls prog 173 #[.string s,.string t] w (IntEnd (cmpF s t) w):=by
 have c1:=λw=>Cl s w l;have c2:=λw=>Cl t w m;clear l m;cases c:vld s with
 |false =>
  have g:cmpF s t=0:=by unfold cmpF;rw[c];rfl
  rw[g];unfold vld at c;rw[c]at c1;clear g c c2;have h:=qh c1;clear c1
  go_enter func173,ntmps173
  go_wp2_with fail
  refine(h.o _).mono ?_;rintro e i⟨rfl,rfl⟩;go_wp2;go_ret;exact⟨rfl,blr⟩
 |true =>
  cases d:vld t with
  |false =>
   have g:cmpF s t=0:=by unfold cmpF;rw[c,d];rfl
   rw[g];unfold vld at c d;rw[c]at c1;rw[d]at c2;clear g c d;have h:=qh c1;clear c1;have k:=qh c2;clear c2
   go_enter func173,ntmps173
   go_wp2_with fail
   refine(h.o _).mono ?_;rintro e i⟨rfl,rfl⟩
   go_wp2_with fail
   refine(k.o _).mono ?_;rintro e i⟨rfl,rfl⟩;go_wp2;go_ret;exact⟨rfl,blr⟩
  |true =>
   rw[show As (bts s)=true from c]at c1;rw[show As (bts t)=true from d]at c2;have h:=qh c1;clear c1;have k:=qh c2;clear c2;replace c:=qh c;replace d:=qh d;have g:cmpF s t=cmpN (val s) (val t):=by unfold cmpF;rw[c.o,d.o];rfl
   have j:=λw=>Ku (val s) (val t) w (by have:=FK c.o;unfold fits at this;omega);rw[Ey c.o,Ey d.o]at j;rw[g];clear g;replace j:=qh j
   go_enter func173,ntmps173
   go_wp2_with fail
   refine(h.o _).mono ?_;rintro e i⟨rfl,rfl⟩
   go_wp2_with fail
   refine(k.o _).mono ?_;rintro e i⟨rfl,rfl⟩
   go_wp2_with fail
   refine(j.o _).mono ?_;rintro e i⟨rfl,hb⟩;replace hb:=qh hb;go_wp2;go_ret;exact⟨rfl,hb.o⟩
variable{d l:List Nat}{a b c:Nat}
def OF(n:Nat)(w:World):
  Calls prog 206 #[.string (str (dec n))] w λe w'=>e=.returned (.tuple #[.string (limS n).1,.int .i64 ((limS n).2:Int)])/\w=w':=by
 have g:=AH<|dec n;by_cases h:(dec n).length<=1000
 ·have d:limS n=(str (dec n),0):=by unfold limS;rw[ifp h]
  have i:((str (dec n)).size:Int)<=1000:=by omega
  have c:=qh d;clear d h g
  go_enter func206,ntmps206
  go_wp2;go_ret2;exact⟨Ij (by rw[c.o]) (by rw[c.o];rfl),rfl⟩
 have d:limS n=(str [],2):=by unfold limS;rw[ifn h]
 have i:(1000:Int)<((str (dec n)).size:Int):=by omega
 have c:=qh d;clear d h g
 go_enter func206,ntmps206
 go_wp2;go_ret2;exact⟨Ij (by rw[c.o];rfl) (by rw[c.o];rfl),rfl⟩
def AddI(xs ys l:List Nat)(k c:Nat):Prop:=dval l+10 ^ k*c=dval (xs.take k)+dval (ys.take k)/\Dig l/\l.length=k/\c<=1
def QM(h:AddI xs d l k c)(j:a=nth xs k)(hb:b=nth d k)(o:a<10)(p:b<10):AddI xs d (l++[(a+b+c) % 10]) (k+1) ((a+b+c) / 10):=by
 obtain⟨s,i,g,u⟩:=h;refine⟨?_,Mu i (by omega),by rw[List.length_append,g];rfl,by omega⟩;rw[Jv,g,EQ,EQ,<-j,<-hb,Nat.pow_succ,Nat.mul_assoc];have e:=Nat.mod_add_div (a+b+c) 10;have m:10 ^ k*((a+b+c) % 10)+10 ^ k*(10*((a+b+c) / 10))=10 ^ k*a+10 ^ k*b+10 ^ k*c:=by
  rw[<-Nat.mul_add,e,Nat.mul_add,Nat.mul_add]
 omega
def QL(h:AddI xs d l k c)(i:Dig xs)(m:Dig d)(s:xs.length<k)(u:d.length<k):dval l=dval xs+dval d:=by
 obtain⟨g,z,A,B⟩:=h;rw[List.take_of_length_le (by omega),List.take_of_length_le (by omega)]at g;obtain⟨j,rfl⟩:∃j,k=j+1:=⟨k-1,by omega⟩;have o:dval xs<10 ^ j:=Nat.lt_of_lt_of_le (FH i) (Nat.pow_le_pow_right (by omega) (by omega));have p:dval d<10 ^ j:=Nat.lt_of_lt_of_le (FH m) (Nat.pow_le_pow_right (by omega) (by omega));rw[Nat.pow_succ]at g;have:c=0:=by
  rcases Nat.eq_zero_or_pos c with h|h
  ·exact h
  have:10 ^ j*10*1<=10 ^ j*10*c:=Nat.mul_le_mul_left _ h;omega
 subst this;omega
def LessI(xs ys l:List Nat)(k c:Nat):Prop:=dval l+dval (ys.take k)=dval (xs.take k)+10 ^ k*c/\Dig l/\l.length=k/\c<=1
def MV{i:List Nat}{d c':Nat}(h:LessI xs i l k c)(o:a=nth xs k)(hb:b=nth i k)(hd:d<10)(p:d+b+c=a+10*c')(g:c'<=1):LessI xs i (l++[d]) (k+1) c':=by
 obtain⟨u,m,j,z⟩:=h;refine⟨?_,Mu m hd,by rw[List.length_append,j];rfl,g⟩;rw[Jv,j,EQ,EQ,<-o,<-hb,Nat.pow_succ,Nat.mul_assoc];have s:10 ^ k*d+10 ^ k*b+10 ^ k*c=10 ^ k*a+10 ^ k*(10*c'):=by
  rw[<-Nat.mul_add,<-Nat.mul_add,p,Nat.mul_add]
 omega
def Ud(h:LessI xs d l xs.length c)(o:d.length<=xs.length)(p:dval d<=dval xs):dval l=dval xs-dval d/\Dig l/\l.length=xs.length:=by
 obtain⟨k,g,i,m⟩:=h;rw[List.take_of_length_le (by omega),List.take_of_length_le (by omega)]at k;have j:=FH g;rw[i]at j;have:c=0:=by
  rcases Nat.eq_zero_or_pos c with h|h
  ·exact h
  have:10 ^ xs.length*1<=10 ^ xs.length*c:=Nat.mul_le_mul_left _ h;omega
 subst this;exact⟨by omega,g,i⟩
def OE(vx vy:Value)(xs z:List Nat)(w:World)(K:Sl w .i64 vx xs)(L:Sl w .i64 vy z)(R:Dig xs)(S:Dig z)(T:z.length<=xs.length)(U:dval z<=dval xs)(a6:xs.length<=100000):
  Calls prog 209 #[vx,vy] w λe w'=>∃ls,dval ls=dval xs-dval z/\Dig ls/\ls.length=xs.length/\ListEnd ls w e w':=by
 obtain⟨i0,hi,N,O,P⟩:=info_parts Hg;obtain⟨ax,cx,rfl⟩:=K.shape;obtain⟨ay,cy,rfl⟩:=L.shape;replace K:=qh K;replace L:=qh L;replace R:=qh R;replace S:=qh S;replace T:=qh T;replace U:=qh U
 go_enter func209,ntmps209
 go_wp2_with fail
 go_loopw [5,6,7] (λv c i wr=>∃(k o:Nat) (l:List Nat),k<=xs.length/\i=.int .i64 (k:Int)/\c=.int .i64 (o:Int)/\LessI xs z l k o/\Own wr w.heap.size 3 .i64 v l/\Below w.heap.size w wr) (λ_ _ i _=>xs.length-(intOf i).toNat)
 case atStart=>exact⟨0,0,[],Nat.zero_le _,rfl,rfl,⟨by simp[dval],Jn,rfl,by omega⟩,Own.nil _ _ _ _,blr⟩
 obtain⟨k,o,l,hk,rfl,rfl,m,j,hb⟩:=hrel;have G:l.length=k:=m.2.2.1;have a4:(o:Int)<=1:=by have:=m.2.2.2;omega
 replace m:=qh m;obtain⟨ad,Q,rfl⟩:=j.shape;rw[G]at j ⊢;replace j:=qh j;have A:=qh hb;clear hb;have J:=A.o.size;have D:=qh G;clear G;by_cases a5:k<xs.length
 ·obtain⟨a,F⟩:=exq<|nth xs k;obtain⟨b,hb⟩:=exq<|nth z k;have a1:(a:Int)<=9:=by have:=R.o k;rw[<-F]at this;omega
  have a2:(b:Int)<=9:=by have:=S.o k;rw[<-hb]at this;omega
  replace F:=qh F;have u:=qh hb;clear hb;have p:wr.ownsRow w.heap.size 3 1 (.slice ad k Q) k (vals .i64 l):=by have:=j.o.raw;rwa [D.o]at this
  replace p:=qh p;by_cases h:a<b+o
  ·have hg:decide (((a:Int)-(b:Int)-(o:Int))<0)=true:=decide_eq_true (by omega);have s:((a:Int)-(b:Int)-(o:Int)+10)=(((a+10-b-o):Nat):Int):=by omega
   have C:=qh s;clear s;replace h:=qh h
   go_wp2_with fail
   have q1:=Ev _ xs k wr (K.o.below A.o nlr) (by omega);rw[<-F.o]at q1;refine q1.mono ?_;clear q1;rintro e W⟨rfl,rfl⟩
   go_wp2_with fail
   have q2:=Ev _ z k wr (L.o.below A.o nlr) (by omega);rw[<-u.o]at q2;refine q2.mono ?_;clear q2;rintro e W⟨rfl,rfl⟩
   go_wp2_with (at_builtin;refine wpList_append_own _ rfl (.tmp 28) (.tmp 30) 26 rfl w.heap.size 3 i0 (.int .i64 0) 1 8 underlying26 hi N O P rfl (by decide) _ _ _ rfl (World.ownsRow.alloc p.o _) (Ad wr.heap.size 0) 1 1 [.int .i64 ((a:Int)-(b:Int)-(o:Int)+10)] rfl rfl (cell_one_new _ _ _) (one_cell _ _) (by unfold maxLen;omega) (by omega) (by simp;omega) ?_;intro v' w1 d g _)
   rw[C.o]at d;obtain⟨I,hb⟩:=j.o.appended A.o J (by rw[D.o];exact d) g;clear d g;have E:=qh I;clear I;have B:=qh hb;clear hb
   try go_wp2
   go_roundw
   case rel=>exact⟨k+1,1,l++[(a+10-b-o)],by omega,by go_num,rfl,MV m.o F.o u.o (by have:=h.o;omega) (by have:=h.o;omega) (by omega),E.o,B.o⟩
   simp[intOf];omega
  have hg:decide (((a:Int)-(b:Int)-(o:Int))<0)=false:=decide_eq_false (by omega);have s:((a:Int)-(b:Int)-(o:Int))=(((a-b-o):Nat):Int):=by omega
  have C:=qh s;clear s;replace h:=qh h
  go_wp2_with fail
  have q1:=Ev _ xs k wr (K.o.below A.o nlr) (by omega);rw[<-F.o]at q1;refine q1.mono ?_;clear q1;rintro e W⟨rfl,rfl⟩
  go_wp2_with fail
  have q2:=Ev _ z k wr (L.o.below A.o nlr) (by omega);rw[<-u.o]at q2;refine q2.mono ?_;clear q2;rintro e W⟨rfl,rfl⟩
  go_wp2_with (at_builtin;refine wpList_append_own _ rfl (.tmp 28) (.tmp 30) 26 rfl w.heap.size 3 i0 (.int .i64 0) 1 8 underlying26 hi N O P rfl (by decide) _ _ _ rfl (World.ownsRow.alloc p.o _) (Ad wr.heap.size 0) 1 1 [.int .i64 ((a:Int)-(b:Int)-(o:Int))] rfl rfl (cell_one_new _ _ _) (one_cell _ _) (by unfold maxLen;omega) (by omega) (by simp;omega) ?_;intro v' w1 d g _)
  rw[C.o]at d;obtain⟨I,hb⟩:=j.o.appended A.o J (by rw[D.o];exact d) g;clear d g;have E:=qh I;clear I;have B:=qh hb;clear hb
  try go_wp2
  go_roundw
  case rel=>exact⟨k+1,0,l++[(a-b-o)],by omega,by go_num,rfl,MV m.o F.o u.o (by have:=h.o;omega) (by have:=h.o;omega) (by omega),E.o,B.o⟩
  simp[intOf];omega
 have H:k=xs.length:=by omega
 have hi:=m.o;rw[H]at hi;obtain⟨X,Y,Z⟩:=Ud hi T.o U.o;have E1:=qh X;have E2:=qh Y;have E3:=qh Z;clear X Y Z hi H;go_wp2;go_ret;exact⟨l,E1.o,E2.o,E3.o,_,rfl,j.o,A.o⟩
def Wa(s t:ByteArray)(w:World)(hs:s.size<=maxLen)(ht:t.size<=maxLen):
  Calls prog 172 #[.string s,.string t] w (PairEnd (addF s t) w):=by
 have c1:=λw=>Cl s w hs;have c2:=λw=>Cl t w ht;clear hs ht;cases h:vld s with
 |false =>
  have K:addF s t=(str [],1):=by unfold addF;rw[h];rfl
  rw[K];unfold vld at h;rw[h]at c1;clear K h c2;have W:=qh c1;clear c1
  go_enter func172,ntmps172
  go_wp2_with fail
  refine(W.o _).mono ?_;rintro e w'⟨rfl,rfl⟩;go_wp2;go_ret2;exact⟨rfl,blr⟩
 |true =>
  cases z:vld t with
  |false =>
   have K:addF s t=(str [],1):=by unfold addF;rw[h,z];rfl
   rw[K];unfold vld at h z;rw[h]at c1;rw[z]at c2;clear K h z;have W:=qh c1;clear c1;have C2:=qh c2;clear c2
   go_enter func172,ntmps172
   go_wp2_with fail
   refine(W.o _).mono ?_;rintro e w'⟨rfl,rfl⟩
   go_wp2_with fail
   refine(C2.o _).mono ?_;rintro e w'⟨rfl,rfl⟩;go_wp2;go_ret2;exact⟨rfl,blr⟩
  |true =>
   rw[show As (bts s)=true from h]at c1;rw[show As (bts t)=true from z]at c2;have W:=qh c1;clear c1;have C2:=qh c2;clear c2;replace h:=qh h;replace z:=qh z;have K:addF s t=limS (val s+val t):=by unfold addF;rw[h.o,z.o];rfl
   rw[K];clear K;have d1:=λw=>Eb s w (by have:=BI h.o;omega) (Bb h.o).2.2.2;replace d1:=qh d1;have d2:=λw=>Eb t w (by have:=BI z.o;omega) (Bb z.o).2.2.2;replace d2:=qh d2;have o1:=Cr (Bb h.o).2.2.2;have U:=Cr (Bb z.o).2.2.2;have a9:=(BI h.o).2;have b0:=(BI z.o).2;have n1:=Cc<|bts s;have n2:=Cc<|bts t;rw[Aq]at n1 n2;obtain⟨u,I⟩:=exq<|digL (bts s);obtain⟨A,J⟩:=exq<|digL (bts t);rw[<-I]at o1 n1;rw[<-J]at U n2;have d4:u.length<=1000:=by omega
   have d5:A.length<=1000:=by omega
   replace o1:=qh o1;replace U:=qh U;replace I:=qh I;replace J:=qh J;clear a9 b0 n1 n2
   go_enter func172,ntmps172
   go_wp2_with fail
   refine(W.o _).mono ?_;rintro e w'⟨rfl,rfl⟩
   go_wp2_with fail
   refine(C2.o _).mono ?_;rintro e w'⟨rfl,rfl⟩
   go_wp2_with fail
   refine(d1.o w).mono ?_;rintro e w1⟨v1,rfl,B,G⟩;rw[<-I.o]at B;obtain⟨ax,cx,rfl⟩:=B.shape;replace B:=qh B;replace G:=qh G;have b2:=G.o.size
   go_wp2_with fail
   refine(d2.o w1).mono ?_;rintro e w2⟨v2,rfl,C,O⟩;rw[<-J.o]at C;obtain⟨ay,cy,rfl⟩:=C.shape;replace C:=qh C;have o:=G.o.trans<|O.mono b2;have S:=B.o.sl.below O nlr;replace o:=qh o;clear O;have b3:=o.o.size;replace S:=qh S;have T:=C.o.sl;replace T:=qh T
   go_wp2_with fail
   obtain⟨i0,hi,b1,a2,a4⟩:=info_parts Hg
   go_loopw [8,9,10] (λv c i wr=>∃(k F:Nat) (l:List Nat),k<=max u.length A.length+1/\i=.int .i64 (k:Int)/\c=.int .i64 (F:Int)/\AddI u A l k F/\Own wr w2.heap.size 3 .i64 v l/\Below w2.heap.size w2 wr) (λ_ _ i _=>max u.length A.length+1-(intOf i).toNat)
   case atStart=>exact⟨0,0,[],Nat.zero_le _,rfl,rfl,⟨by simp[dval],Jn,rfl,by omega⟩,Own.nil _ _ _ _,blr⟩
   obtain⟨k,F,l,hk,rfl,rfl,d,g,hb⟩:=hrel;have R:l.length=k:=d.2.2.1;have b8:(F:Int)<=1:=by have:=d.2.2.2;omega
   replace d:=qh d;have a5:k<=1001:=by omega
   replace hk:=qh hk;obtain⟨ad,a7,rfl⟩:=g.shape;rw[R]at g ⊢;replace g:=qh g;have X:=qh hb;clear hb;have a8:=X.o.size;have L:=qh R;clear R;by_cases H:k<=u.length\/k<=A.length
   ·obtain⟨a,Z⟩:=exq<|nth u k;obtain⟨b,hb⟩:=exq<|nth A k;have b6:(a:Int)<=9:=by have:=o1.o.1 k;rw[<-Z]at this;omega
    have b7:(b:Int)<=9:=by have:=U.o.1 k;rw[<-hb]at this;omega
    replace Z:=qh Z;have Y:=qh hb;clear hb;have D:wr.ownsRow w2.heap.size 3 1 (.slice ad k a7) k (vals .i64 l):=by have:=g.o.raw;rwa [L.o]at this
    replace D:=qh D;have N:=qh H;have Q:(((a:Int)+(b:Int)+(F:Int)) % 10)=(((a+b+F) % 10:Nat):Int):=by omega
    replace Q:=qh Q;by_cases b5:k<=u.length
    rotate_left
    have b4:k<=A.length:=by omega
    have hg:decide ((k:Int)<=(u.length:Int))=false:=decide_eq_false (by omega)
    all_goals
     clear H
     go_wp2_with fail
     have q1:=Ev _ u k wr (S.o.below X.o nlr) (by omega);rw[<-Z.o]at q1;refine q1.mono ?_;clear q1;rintro e w0⟨rfl,rfl⟩
     go_wp2_with fail
     have q2:=Ev _ A k wr (T.o.below X.o nlr) (by omega);rw[<-Y.o]at q2;refine q2.mono ?_;clear q2;rintro e w0⟨rfl,rfl⟩
     go_wp2_with (at_builtin;refine wpList_append_own _ rfl (.tmp 45) (.tmp 48) 26 rfl w2.heap.size 3 i0 (.int .i64 0) 1 8 underlying26 hi b1 a2 a4 rfl (by decide) _ _ _ rfl (World.ownsRow.alloc D.o _) (Ad wr.heap.size 0) 1 1 [.int .i64 (((a:Int)+(b:Int)+(F:Int)) % 10)] rfl rfl (cell_one_new _ _ _) (one_cell _ _) (by unfold maxLen;omega) (by omega) (by simp;omega) ?_;intro v' d6 j p _)
     rw[Q.o]at j;obtain⟨ho,hb⟩:=g.o.appended X.o a8 (by rw[L.o];exact j) p;clear j p;replace ho:=qh ho;have a6:=qh hb;clear hb
     try go_wp2
     go_roundw
     case rel=>exact⟨k+1,(a+b+F) / 10,l++[(a+b+F) % 10],by have:=N.o;omega,by go_num,by go_num,QM d.o Z.o Y.o (by omega) (by omega),ho.o,a6.o⟩
     have:=N.o;have:=hk.o;simp[intOf];omega
   have hg:decide ((k:Int)<=(u.length:Int))=false:=decide_eq_false (by omega);have b9:decide ((k:Int)<=(A.length:Int))=false:=decide_eq_false (by omega);have d0:u.length<k:=by omega
   have d3:A.length<k:=by omega
   have E:=QL d.o o1.o.1 U.o.1 (by omega) (by omega);rw[o1.o.2,U.o.2]at E;have m:dval l=val s+val t:=E;clear E;replace m:=qh m;have N:=qh H;clear H
   go_wp2_with fail
   have q3:=Im _ l wr g.o.sl d.o.2.1 (by rw[L.o];omega);rw[m.o]at q3;refine q3.mono ?_;clear q3;rintro e w4⟨rfl,a1⟩;have P:=o.o.trans<|(X.o.mono b3).trans (a1.mono (by omega));replace P:=qh P;clear a1
   go_wp2_with fail
   refine(OF (val s+val t) w4).mono ?_;rintro e w5⟨rfl,rfl⟩;go_wp2;go_ret2;exact⟨rfl,P.o⟩
def WM(s t:ByteArray)(w:World)(hs:s.size<=maxLen)(ht:t.size<=maxLen):
  Calls prog 174 #[.string s,.string t] w (PairEnd (subF s t) w):=by
 have c1:=λw=>Cl s w hs;have c2:=λw=>Cl t w ht;clear hs ht;cases c:vld s with
 |false =>
  have z:subF s t=(str [],1):=by unfold subF;rw[c];rfl
  rw[z];unfold vld at c;rw[c]at c1;clear z c c2;have P:=qh c1;clear c1
  go_enter func174,ntmps174
  go_wp2_with fail
  refine(P.o _).mono ?_;rintro e R⟨rfl,rfl⟩;go_wp2;go_ret2;exact⟨rfl,blr⟩
 |true =>
  cases g:vld t with
  |false =>
   have z:subF s t=(str [],1):=by unfold subF;rw[c,g];rfl
   rw[z];unfold vld at c g;rw[c]at c1;rw[g]at c2;clear z c g;have P:=qh c1;clear c1;have Y:=qh c2;clear c2
   go_enter func174,ntmps174
   go_wp2_with fail
   refine(P.o _).mono ?_;rintro e R⟨rfl,rfl⟩
   go_wp2_with fail
   refine(Y.o _).mono ?_;rintro e R⟨rfl,rfl⟩;go_wp2;go_ret2;exact⟨rfl,blr⟩
  |true =>
   rw[show As (bts s)=true from c]at c1;rw[show As (bts t)=true from g]at c2;have P:=qh c1;clear c1;have Y:=qh c2;clear c2;replace c:=qh c;replace g:=qh g;have W:=λw=>Ku (val s) (val t) w (by have:=FK c.o;unfold fits at this;omega);rw[Ey c.o,Ey g.o]at W;have d1:=λw=>Eb s w (by have:=BI c.o;omega) (Bb c.o).2.2.2;replace d1:=qh d1;have d2:=λw=>Eb t w (by have:=BI g.o;omega) (Bb g.o).2.2.2;replace d2:=qh d2;have o1:=Cr (Bb c.o).2.2.2;have Q:=Cr (Bb g.o).2.2.2;have a2:=(BI c.o).2;have a4:=(BI g.o).2;have n1:=Cc<|bts s;have n2:=Cc<|bts t;rw[Aq]at n1 n2;obtain⟨N,A⟩:=exq<|digL (bts s);obtain⟨O,B⟩:=exq<|digL (bts t);rw[<-A]at o1 n1;rw[<-B]at Q n2;have b0:N.length<=1000:=by omega
   have b1:O.length<=1000:=by omega
   replace o1:=qh o1;replace Q:=qh Q;replace A:=qh A;replace B:=qh B;clear a2 a4 n1 n2;have a1:cmpN (val s) (val t)=if val s<val t then -1 else if val t<val s then 1 else 0:=rfl
   clear a1;replace W:=qh W;by_cases d:val s<val t
   ·have z:subF s t=(str [],4):=by unfold subF;rw[c.o,g.o,ifp d];rfl
    rw[z];clear z;have E:=Cq d;have Z:=qh E;clear E d
    go_enter func174,ntmps174
    go_wp2_with fail
    refine(P.o _).mono ?_;rintro e R⟨rfl,rfl⟩
    go_wp2_with fail
    refine(Y.o _).mono ?_;rintro e R⟨rfl,rfl⟩
    go_wp2_with fail
    have q0:=W.o w;unfold CmpEnd at q0;rw[Z.o]at q0;refine q0.mono ?_;clear q0;rintro e w0⟨rfl,m⟩;have C:=qh m;clear m;go_wp2;go_ret2;exact⟨rfl,C.o⟩
   have z:subF s t=(str (dec (val s-val t)),0):=by unfold subF;rw[c.o,g.o,ifn d];rfl
   rw[z];clear z;have E:(0:Int)<=cmpN (val s) (val t):=by unfold cmpN;rw[ifn d];split<;>decide
   obtain⟨cc,D⟩:=exq<|cmpN (val s) (val t);rw[<-D]at E;replace D:=qh D;have I:O.length<=N.length:=by
    rw[B.o,A.o,Cc,Cc];have e1:bts s=dec (val s):=by unfold val;rw[BU c.o]
    have e2:bts t=dec (val t):=by unfold val;rw[BU g.o]
    rw[e1,e2]
    rcases Nat.lt_or_ge (dec (val s)).length (dec (val t)).length with h|h
    ·exact absurd (Ji h) d
    exact h
   have K:dval O<=dval N:=by rw[o1.o.2,Q.o.2];exact Nat.le_of_not_lt d
   have J:dval N-dval O=val s-val t:=by rw[o1.o.2,Q.o.2];rfl
   replace I:=qh I;replace K:=qh K;replace J:=qh J;clear d
   go_enter func174,ntmps174
   go_wp2_with fail
   refine(P.o _).mono ?_;rintro e R⟨rfl,rfl⟩
   go_wp2_with fail
   refine(Y.o _).mono ?_;rintro e R⟨rfl,rfl⟩
   go_wp2_with fail
   have q0:=W.o w;unfold CmpEnd at q0;rw[<-D.o]at q0;refine q0.mono ?_;clear q0;rintro e w0⟨rfl,m⟩;have C:=qh m;clear m;have a5:=C.o.size
   go_wp2_with fail
   refine(d1.o w0).mono ?_;rintro e w1⟨v1,rfl,p,S⟩;rw[<-A.o]at p;obtain⟨ax,cx,rfl⟩:=p.shape;replace p:=qh p;have i:=C.o.trans<|S.mono a5;replace i:=qh i;clear S;have a6:=i.o.size
   go_wp2_with fail
   refine(d2.o w1).mono ?_;rintro e w2⟨v2,rfl,u,G⟩;rw[<-B.o]at u;obtain⟨ay,cy,rfl⟩:=u.shape;replace u:=qh u;have j:=i.o.trans<|G.mono a6;have L:=p.o.sl.below G nlr;replace j:=qh j;clear G;have a7:=j.o.size;replace L:=qh L
   go_wp2_with fail
   refine(OE _ _ N O w2 L.o u.o.sl o1.o.1 Q.o.1 I.o K.o (by omega)).mono ?_;rintro e w3⟨ls,l,o,X,v3,rfl,F,T⟩;obtain⟨al,cl,rfl⟩:=F.shape;rw[J.o]at l;replace l:=qh l;replace o:=qh o;have a9:ls.length<=1000:=by omega
   clear X;replace F:=qh F;have k:=j.o.trans<|T.mono a7;replace k:=qh k;clear T;have a8:=k.o.size
   go_wp2_with fail
   have q3:=Im _ ls w3 F.o.sl o.o (by omega);rw[l.o]at q3;refine q3.mono ?_;clear q3;rintro e w4⟨rfl,U⟩;have H:=k.o.trans<|U.mono a8;replace H:=qh H;clear U;go_wp2;go_ret2;exact⟨rfl,H.o⟩
end
end Go.Proofs.YtpldocnhbdlgfaaGreatDoor
