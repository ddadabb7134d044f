/- Parts. -/
import Derived.Test.YtpldocnhbdlgfaaGreatDoorPa05
namespace Go.Proofs.YtpldocnhbdlgfaaGreatDoor
set_option maxRecDepth 100000
set_option linter.all false
set_option maxHeartbeats 16000000
open Go Tryz
section
open Go.RowKit
def Xi(s:ByteArray)(w:World)(D:1<=s.size)(E:s.size<=1000)(p:s.size=1\/(bts s).headD 0≠48):
  Calls prog 176 #[.string s] w λe w'=>e=.returned (.bool (dgts (bts s)))/\w=w':=by
 have C:0<s.size:=by omega
 have A:decide ((s.size:Int)<1)=false:=by simp;omega
 have l:decide ((1000:Int)<(s.size:Int))=false:=by simp;omega
 have d:((s[0].toNat:Int)==48)=false\/(((s[0].toNat:Int)==48)=true/\decide ((1:Int)<(s.size:Int))=false):=by
  rcases p with h|h
  ·by_cases F:s[0].toNat=48
   ·right;exact⟨by rw[beq_iff_eq];omega,by simp;omega⟩
   left;rw[beq_eq_false_iff_ne];omega
  left;exact Qk _ (by rw[<-FP s C];exact h)
 clear p
 rcases d with u|⟨u,B⟩
 all_goals
  go_enter func176,ntmps176
  go_wp2_with fail
  clear A l u
  try clear B
  go_loop [3] (λi=>∃k:Nat,k<=s.size/\i=.int .i64 k/\dgts ((bts s).take k)=true) (λi=>s.size-(intOf i).toNat)
  case atStart=>exact⟨0,Nat.zero_le _,rfl,rfl⟩
  obtain⟨k,G,rfl,j⟩:=hrel;replace j:=qh j;by_cases c:k<s.size
  ·by_cases o:(s[k].toNat:Int)<48
   ·go_wp2;go_ret;exact⟨AJ (Hj s k c (Jt o)).symm,rfl⟩
   by_cases m:(57:Int)<(s[k].toNat:Int)
   ·have g:decide ((s[k].toNat:Int)<48)=false:=by simp;omega
    go_wp2;go_ret;exact⟨AJ (Hj s k c (Js m)).symm,rfl⟩
   have g:decide ((s[k].toNat:Int)<48)=false:=by simp;omega
   have z:decide ((57:Int)<(s[k].toNat:Int))=false:=by simp;omega
   go_wp2
   go_round
   case rel=>exact⟨k+1,by omega,by go_num,by rw[EH s k c,DW,j.o,Ju (by omega) (by omega)];rfl⟩
   simp[intOf];omega
  go_wp2;go_ret;exact⟨AJ (by rw[<-j.o,List.take_of_length_le (by rw[Aq];omega)]),rfl⟩
def Cm(s:ByteArray)(w:World)(p:s.size<=maxLen):
  Calls prog 176 #[.string s] w λe w'=>e=.returned (.bool (As (bts s)))/\w=w':=by
 unfold maxLen at p;by_cases g:s.size=0;have c:As (bts s)=false:=by simp[As,Aq,g]
 have k:decide ((s.size:Int)<1)=true:=by simp;omega
 have i:=qh c;clear c;have l:(s.size:Int)<1:=by omega
 clear g
 rotate_left
 by_cases j:1000<s.size;have c:As (bts s)=false:=by simp[As,Aq];intros;omega
 have i:=qh c;clear c;have k:decide ((s.size:Int)<1)=false:=by simp;omega
 have l:(1000:Int)<(s.size:Int):=by omega
 clear g j
 rotate_left
 by_cases d:s.size=1\/(bts s).headD 0≠48
 ·refine(Xi s w (by omega) (by omega) d).mono λe w' ⟨o,A⟩=>⟨?_,A⟩;rw[o];have:As (bts s)=dgts (bts s):=by
   cases hd:dgts (bts s) with
   |false=>simp[As,hd]
   |true=>exact IS (by rw[Aq];omega) (by rw[Aq];omega) (by rw[Aq];exact d) hd
  rw[this]
 have c:As (bts s)=false:=by
  cases z:As (bts s) with
  |false=>rfl
  |true=>exact absurd (by have:=(Bc z).2.2.1;rw[Aq]at this;exact this) d
 have i:=qh c;clear c;have u:0<s.size:=by omega
 have l:((s[0].toNat:Int)==48)=true:=by
  have:(bts s).headD 0=48:=by
   by_cases h:(bts s).headD 0=48
   ·exact h
   exact absurd (Or.inr h) d
  rw[FP s u]at this;rw[this];rfl
 have B:(1:Int)<(s.size:Int):=by
  by_cases h:s.size=1
  ·exact absurd (Or.inl h) d
  omega
 have k:decide ((s.size:Int)<1)=false:=by simp;omega
 have m:decide ((1000:Int)<(s.size:Int))=false:=by simp;omega
 clear g j d
 all_goals
  go_enter func176,ntmps176
  go_wp2;go_ret;exact⟨AJ i.o.symm,rfl⟩
variable{xs:List Nat}{k:Nat}
def dval:List Nat->Nat | []=>0|x::xs=>x+10*dval xs
def Dig(xs:List Nat):Prop:=∀i,nth xs i<10
def Jw:Dig []:=λi=>by rw[AQ _ _ nzl];omega
def MG{x:Nat}(h:Dig xs)(d:x<10):Dig (xs++[x]):=λi=>by
 by_cases c:i<xs.length
 ·rw[FW _ _ _ c];exact h i
 rw[FX _ _ _ (by omega)];cases i-xs.length with
 |zero=>exact d
 |succ j=>show 0<10;omega
def Hk(h:Dig xs)(k:Nat):Dig (xs.take k):=λi=>by
 by_cases c:i<k
 ·rw[Fo _ _ _ c];exact h i
 rw[AQ _ _ (by rw[List.length_take];omega)];omega
theorem JC(xs c:List Nat):dval (xs++c)=dval xs+10 ^ xs.length*dval c:=by
 induction xs with
 |nil=>simp[dval]
 |cons x xs ih=>simp only[List.cons_append,dval,ih,List.length_cons,Nat.pow_succ];rw[Nat.mul_add,Nat.mul_comm (10 ^ xs.length) 10,Nat.mul_assoc];omega
theorem JD(xs:List Nat)(x:Nat):dval (xs++[x])=dval xs+10 ^ xs.length*x:=by rw[JC];simp[dval]
theorem EU(xs:List Nat)(k:Nat):dval (xs.take (k+1))=dval (xs.take k)+10 ^ k*nth xs k:=by
 by_cases h:k<xs.length
 ·rw[II xs k h,JD,List.length_take,Nat.min_eq_left (by omega)]
 rw[List.take_of_length_le (by omega),List.take_of_length_le (by omega),AQ xs k (by omega)];simp
def ML(h:∀i,nth xs i=0):dval xs=0:=by
 induction xs with
 |nil=>rfl
 |cons x xs ih=>simp only[dval];rw[ih (λi=>h (i+1)),show x=0 from h 0]
theorem FL(h:Dig xs):dval xs<10 ^ xs.length:=by
 induction xs with
 |nil=>simp[dval]
 |cons x xs ih =>
  have c:=h 0;rw[Ke]at c;have:=ih<|λi=>h (i+1);simp only[dval,List.length_cons,Nat.pow_succ];omega
def Tp(c:∀j,k<=j->nth xs j=0):dval (xs.take k)=dval xs:=by
 have h:=JC (xs.take k) (xs.drop k);rw[List.take_append_drop]at h;rw[h,ML (xs:=xs.drop k) (λi=>by rw[FY];exact c _ (by omega))];simp
def byteOf(d:Nat):UInt8:=UInt8.ofNat<|48+d
def byteOf_toNat{d:Nat}(h:d<10):(byteOf d).toNat=48+d:=u8n (by omega)
def bytesOf(xs:List Nat):List UInt8:=xs.reverse.map byteOf
theorem RZ(xs:List Nat)(x:Nat):bytesOf (xs++[x])=byteOf x::bytesOf xs:=by simp[bytesOf]
theorem Jj(xs:List Nat):(bytesOf xs).length=xs.length:=by simp[bytesOf]
theorem Mp(x:Nat)(xs:List Nat):bytesOf (x::xs)=bytesOf xs++[byteOf x]:=by simp[bytesOf]
theorem Od(h:Dig xs):num (bytesOf xs)=dval xs/\dgts (bytesOf xs)=true:=by
 induction xs with
 |nil=>exact⟨rfl,rfl⟩
 |cons x xs ih =>
  obtain⟨i1,d⟩:=ih<|λi=>h (i+1);have c:x<10:=h 0;rw[Mp,Dr,DW,i1,d,byteOf_toNat c];refine⟨by simp only[dval];omega,?_⟩;simp only[dgt,byteOf_toNat c];simp;omega
def MA(h:Dig xs)(m:1<=k)(l:k<=xs.length)(p:∀j,k<=j->nth xs j=0)(d:k=1\/nth xs (k-1)≠0):
  dec (dval xs)=bytesOf (xs.take k):=by
 rw[<-Tp p,<-(Od (Hk h k)).1];have o:(bytesOf (xs.take k)).length=k:=by rw[Jj,List.length_take];omega
 have hd:=(Od (Hk h k)).2
 rcases d with rfl|d
 ·obtain⟨x,g⟩:∃x,xs.take 1=[x]:=by
   cases xs with
   |nil=>simp at l
   |cons x xs=>exact⟨x,rfl⟩
  have c:x<10:=by have:=Hk h 1 0;rw[g]at this;exact this
  rw[g];show dec (num [byteOf x])=[byteOf x];have:num [byteOf x]=x:=by simp only[num,List.foldl];rw[byteOf_toNat c];omega
  rw[this,By c];rfl
 refine(MC k _ o (by omega) ?_ hd).2;have e:xs.take k=xs.take (k-1)++[nth xs (k-1)]:=by
  have:=II xs (k-1) (by omega)
  rwa [show k-1+1=k by omega]at this
 rw[e,RZ,List.headD_cons];intro i;have:=congrArg UInt8.toNat i;rw[byteOf_toNat (h (k-1))]at this;simp at this;exact d this
def digL(l:List UInt8):List Nat:=l.reverse.map λc=>c.toNat-48
theorem Ce(l:List UInt8):(digL l).length=l.length:=by simp[digL]
theorem Cr{l:List UInt8}(h:dgts l=true):Dig (digL l)/\dval (digL l)=num l:=by
 suffices h':∀(k:Nat) (l:List UInt8),l.length=k->dgts l=true->Dig (digL l)/\dval (digL l)=num l from h' _ l rfl h
 intro k
 induction k with
 |zero =>
      intro l d _;have:l=[]:=List.length_eq_zero_iff.1 d;subst this;exact⟨Jw,rfl⟩
 |succ k ih =>
  intro l d g;obtain⟨m,c,rfl⟩:=HA l (by intro e;subst e;simp at d);rw[DW]at g;simp only[Bool.and_eq_true,dgt,decide_eq_true_eq]at g;simp at d;obtain⟨i1,j⟩:=ih m d g.1;have e:digL (m++[c])=(c.toNat-48)::digL m:=by simp[digL]
  rw[e,Dr];refine⟨λi=>?_,by simp only[dval];omega⟩;cases i with
  |zero=>show c.toNat-48<10;omega
  |succ i=>exact i1 i
def SV(s:ByteArray)(i:Nat)(h:i<s.size):nth (digL (bts s)) i=s[s.size-1-i].toNat-48:=by
 rw[Db _ _ (by rw[Ce,Aq];exact h)];unfold digL;rw[List.getElem_map,List.getElem_reverse]
 congr 2
def Hr:(prog.info? 3).map (λi=>(i.zero,i.size,i.bytes))=some (some (.int .i64 0),1,8):=by kernel_rfl
def MZ:(prog.info? 5).map (λi=>(i.zero,i.size,i.bytes))=some (some (.int .u8 0),1,1):=by kernel_rfl
def ListEnd(xs:List Nat)(w:World)(e:Ending)(w':World):Prop:=∃v,e=.returned v/\Own w' w.heap.size 3 .i64 v xs/\Below w.heap.size w w'
def Ee(s:ByteArray)(w:World)(P:s.size<=100000)(hd:dgts (bts s)=true):
  Calls prog 204 #[.string s] w (ListEnd (digL (bts s)) w):=by
 obtain⟨i0,hi,F,G,H⟩:=info_parts Hr;have I:=qh hd;clear hd;have j:=Ce<|bts s;rw[Aq]at j;replace j:=qh j
 go_enter func204,ntmps204
 go_wp2_with fail
 go_loopw [3,4] (λv i wr=>∃k:Nat,k<=s.size/\i=.int .i64 ((s.size:Int)-1-(k:Int))/\Own wr w.heap.size 3 .i64 v ((digL (bts s)).take k)/\Below w.heap.size w wr) (λ_ i _=>(intOf i+1).toNat)
 case atStart=>exact⟨0,Nat.zero_le _,by go_num,Own.nil _ _ _ _,blr⟩
 obtain⟨k,O,rfl,c,hb⟩:=hrel;have d:((digL (bts s)).take k).length=k:=by rw[List.length_take,j.o];omega
 obtain⟨J,D,rfl⟩:=c.shape;rw[d]at c ⊢;replace c:=qh c;have A:=qh hb;clear hb;have E:=A.o.size;replace d:=qh d;by_cases z:k<s.size
 ·have hd:=Jv I.o (s.size-1-k) (by rw[Aq];omega);rw[Jh s _ (by omega)]at hd;have K:(48:Int)<=(s[s.size-1-k].toNat:Int):=by omega
  have L:(s[s.size-1-k].toNat:Int)<=57:=by omega
  have m:=SV s k z;have p:(digL (bts s)).take (k+1)=(digL (bts s)).take k++[s[s.size-1-k].toNat-48]:=by rw[II _ _ (by rw[j.o];exact z),m]
  replace p:=qh p;clear m hd;have l:wr.ownsRow w.heap.size 3 1 (.slice J k D) k (vals .i64 ((digL (bts s)).take k)):=by have:=c.o.raw;rwa [d.o]at this
  replace l:=qh l;have o:((s[s.size-1-k].toNat:Int)-48)=((s[s.size-1-k].toNat-48:Nat):Int):=by omega
  replace o:=qh o
  go_wp2_with (at_builtin;refine wpList_append_own _ rfl (.tmp 12) (.tmp 18) 26 rfl w.heap.size 3 i0 (.int .i64 0) 1 8 underlying26 hi F G H rfl (by decide) _ _ _ rfl (World.ownsRow.alloc l.o _) (Ad wr.heap.size 0) 1 1 [.int .i64 ((s[s.size-1-k].toNat:Int)-48)] rfl rfl (cell_one_new _ _ _) (one_cell _ _) (by unfold maxLen;omega) (by omega) (by simp;omega) ?_;intro Q R g h _)
  rw[o.o]at g;obtain⟨u,hb⟩:=c.o.appended A.o E (by rw[d.o];exact g) h;clear g h;rw[<-p.o]at u;have C:=qh u;clear u;have B:=qh hb;clear hb;go_wp2;go_roundw
  case rel=>exact⟨k+1,by omega,by go_num,C.o,B.o⟩
  simp[intOf];omega
 go_wp2;go_ret;have N:k=s.size:=by omega
 have u:=c.o;have e:(digL (bts s)).take k=digL (bts s):=List.take_of_length_le (by rw[j.o];omega);rw[e]at u;exact⟨_,rfl,u,A.o⟩
def Ez(v:Value)(xs:List Nat)(i:Nat)(w:World)(h:Sl w .i64 v xs)(hi:i<=1000000):
  Calls prog 205 #[v,.int .i64 (i:Int)] w λe w'=>e=.returned (.int .i64 ((nth xs i:Nat):Int))/\w=w':=by
 obtain⟨o,p,bx,u,rfl,d,m,j,g,c⟩:=h.open;unfold maxLen at j;clear h;by_cases k:i<xs.length
 ·obtain rfl:=d (by omega);have s:=c i k;clear c g
  go_enter func205,ntmps205
  go_wp2;go_ret;exact⟨rfl,rfl⟩
 have l:=AQ xs i (by omega);replace l:=qh l;clear c d g
 go_enter func205,ntmps205
 go_wp2;go_ret;exact⟨BS (by rw[l.o];rfl),rfl⟩
def Mq(xs:List Nat){k m:Nat}(g:k<=xs.length)(d:0<m)(h:m<=k)(c:nth xs (m-1)<10):
  (bytesOf ((xs.take k).drop (m-1))).map (·.toNat)=(bytesOf ((xs.take k).drop m)).map (·.toNat)++[48+nth xs (m-1)]:=by
 rw[List.drop_eq_getElem_cons (by rw[List.length_take];omega),show m-1+1=m by omega,Mp,List.map_append]
 congr 1
 have e:(xs.take k)[m-1]'(by rw[List.length_take];omega)=nth xs (m-1):=by
  rw[Db xs _ (by omega)];simp
 rw[e];simp[byteOf_toNat c]
theorem Oo{w:World}{B g cap n:Nat}{l:List UInt8}(h:Own w B 5 .u8 (.slice (some (Ad g 0)) n cap) (l.map (·.toNat)))(hn:l.length=n):
  ∀(j:Nat) (c:j<l.length),w.cell? (((Ad g 0):Addr).add j)=some (.int .u8 ((l[j].toNat:Nat):Int)):=λj c=>by
 have d:=h.cell (by rw[List.length_map];exact hn) j (by omega);have e:((Ad g 0):Addr).add j=(Ad g j):=by unfold Addr.add;split<;>simp_all
 rw[e,d,Db _ _ (by rw[List.length_map];exact c),List.getElem_map]
theorem Iy(v:Value)(xs:List Nat)(w:World)(h:Sl w .i64 v xs)(hd:Dig xs)(hl:xs.length<=100000):
  Calls prog 207 #[v] w λe w'=>e=.returned (.string (str (dec (dval xs))))/\Below w.heap.size w w':=by
 obtain⟨i0,hi,a9,b0,b1⟩:=info_parts MZ;obtain⟨ax,cx,bx,ox,rfl,S,b4,a8,T,s⟩:=h.open;unfold maxLen at a8;replace hd:=qh hd;clear h;replace S:=qh S;replace s:=qh s;have X:=qh T;clear T
 go_enter func207,ntmps207
 go_wp2_with fail
 go_loopw [3] (λn wr=>∃k:Nat,k<=xs.length/\n=.int .i64 (k:Int)/\(∀j,k<=j->nth xs j=0)/\(1<=xs.length->1<=k)/\Below w.heap.size w wr) (λn _=>(intOf n).toNat)
 case atStart=>exact⟨xs.length,nlr,rfl,λj hj=>AQ xs j hj,λh=>h,blr⟩
 obtain⟨k,hk,rfl,hz,U,hb⟩:=hrel;replace hz:=qh hz;replace U:=qh U;have HB:=qh hb;clear hb;by_cases b5:1<k
 ·obtain rfl:=S.o (by omega);have T:=X.o (by omega);have hc:=(HB.o.cell (p:=(Ad bx (ox+(k-1)))) T).trans (s.o (k-1) (by omega));have hg:(1:Int)<(k:Int):=by omega
  by_cases h0:nth xs (k-1)=0
  ·have I:(((nth xs (k-1):Nat):Int)==0)=true:=by rw[beq_iff_eq];omega
   replace h0:=qh h0;go_wp2;go_roundw
   case rel=>exact⟨k-1,by omega,by go_num,λj hj=>by
    by_cases e:j=k-1
    ·rw[e];exact h0.o
    exact hz.o j (by omega),λ_=>by omega,HB.o⟩
   simp[intOf];omega
  have I:(((nth xs (k-1):Nat):Int)==0)=false:=by rw[beq_eq_false_iff_ne];omega
  replace h0:=qh h0;have E:k=0\/k=1\/nth xs (k-1)≠0:=.inr<|.inr h0.o;have G:=qh E;clear E;obtain⟨wo,rfl⟩:∃wo:World,wo=wr:=⟨_,rfl⟩;have Z:=qh hk
  go_wp2_with fail
  go_loopw [4,5] (λv i wr=>∃m:Nat,m<=k/\i=.int .i64 ((m:Int)-1)/\Own wr w.heap.size 5 .u8 v ((bytesOf ((xs.take k).drop m)).map (·.toNat))/\Below w.heap.size w wr) (λ_ i _=>(intOf i+1).toNat)
  case atStart=>exact⟨k,nlr,rfl,by rw[List.drop_of_length_le (by rw[List.length_take];omega)];exact Own.nil _ _ _ _,HB.o⟩
  obtain⟨m,hm,rfl,z,J⟩:=hrel;have l:((bytesOf ((xs.take k).drop m)).map (·.toNat)).length=k-m:=by rw[List.length_map,Jj,List.length_drop,List.length_take];omega
  obtain⟨ad,H,rfl⟩:=z.shape;rw[l]at z ⊢;have R:=qh z;clear z;have A:=qh J;clear J;have a5:=A.o.size;have c:=qh l;clear l;by_cases a4:0<m
  ·skip
   have L:=X.o (by omega);have b2:=(A.o.cell (p:=(Ad bx (ox+(m-1)))) L).trans (s.o (m-1) (by omega));have b3:((nth xs (m-1):Nat):Int)<=9:=by have:=hd.o<|m-1;omega
   have Q:=Mq xs hk a4 hm (hd.o (m-1));have a2:=qh Q;clear Q;have D:wr.ownsRow w.heap.size 5 1 (.slice ad (k-m) H) (k-m) (vals .u8 ((bytesOf ((xs.take k).drop m)).map (·.toNat))):=by have:=R.o.raw;rwa [c.o]at this
   have F:=qh D;clear D;have N:(48+((nth xs (m-1):Nat):Int))=((48+nth xs (m-1):Nat):Int):=by omega
   have Y:=qh N;clear N
   go_wp2_with (at_builtin;refine wpList_append_own _ rfl (.tmp 26) (.tmp 33) 217 rfl w.heap.size 5 i0 (.int .u8 0) 1 1 underlying217 hi a9 b0 b1 rfl (by decide) _ _ _ rfl (World.ownsRow.alloc F.o _) (Ad wr.heap.size 0) 1 1 [.int .u8 (48+((nth xs (m-1):Nat):Int))] rfl rfl (cell_one_new _ _ _) (one_cell _ _) (by unfold maxLen;omega) (by omega) (by simp;omega) ?_;intro v' w1 o u _)
   rw[Y.o]at o;obtain⟨C,hb⟩:=R.o.appended A.o a5 (by rw[c.o];exact o) u;clear o u;rw[<-a2.o]at C;have a1:=qh C;clear C;have W:=qh hb;clear hb;go_wp2;go_roundw
   case rel=>exact⟨m-1,by omega,by go_num,a1.o,W.o⟩
   simp[intOf];omega
  obtain rfl:m=0:=by omega
  rw[List.drop_zero]at R;rw[Nat.sub_zero,List.drop_zero]at c;rw[Nat.sub_zero]
  rcases Nat.eq_zero_or_pos k with B|B
  ·have I:(((k:Nat):Int)==0)=true:=by rw[beq_iff_eq];omega
   have d:str (dec (dval xs))=⟨#[48]⟩:=by
    have:xs=[]:=List.length_eq_zero_iff.1 (by
     rcases Nat.eq_zero_or_pos xs.length with h|h
     ·exact h
     have:=U.o h;omega)
    rw[this];show str (dec 0)=_;rw[By (by omega)];rfl
   have HR:=qh d;clear d B;go_wp2;go_ret;exact⟨Dt HR.o.symm,A.o⟩
  have I:(((k:Nat):Int)==0)=false:=by rw[beq_eq_false_iff_ne];omega
  have C:=R.o;rw[Nat.sub_zero]at C;obtain⟨g,a7,hv,_⟩:=C.some (by rw[c.o];exact B);rw[c.o]at hv;simp only[Value.slice.injEq,true_and]at hv;obtain⟨rfl,rfl⟩:=hv;have O:=run_convert_bytes_back (P:=prog) wr 217 9 5 (Ad g 0) H (bytesOf (xs.take k)) underlying217 underlying5 underlying9 (Oo C (by rw[List.length_map]at c;exact c.o));have K:(bytesOf (xs.take k)).length=k:=by have:=c.o;rwa [List.length_map]at this
  rw[K]at O;have d:(⟨(bytesOf (xs.take k)).toArray⟩:ByteArray)=str (dec (dval xs)):=by
   have a6:k=1\/nth xs (k-1)≠0:=by
    rcases G.o with h|h|h
    ·omega
    ·exact .inl h
    exact .inr h
   rw[MA hd.o B Z.o hz.o a6];rfl
  rw[d]at O;clear K d C B;go_wp2;go_ret;exact⟨rfl,A.o⟩
 have hg:decide ((1:Int)<(k:Int))=false:=by simp;omega
 have E:k=0\/k=1\/nth xs (k-1)≠0:=by omega
 have G:=qh E;clear E;obtain⟨wo,rfl⟩:∃wo:World,wo=wr:=⟨_,rfl⟩;have Z:=qh hk
 go_wp2_with fail
 go_loopw [4,5] (λv i wr=>∃m:Nat,m<=k/\i=.int .i64 ((m:Int)-1)/\Own wr w.heap.size 5 .u8 v ((bytesOf ((xs.take k).drop m)).map (·.toNat))/\Below w.heap.size w wr) (λ_ i _=>(intOf i+1).toNat)
 case atStart=>exact⟨k,nlr,rfl,by rw[List.drop_of_length_le (by rw[List.length_take];omega)];exact Own.nil _ _ _ _,HB.o⟩
 obtain⟨m,hm,rfl,z,J⟩:=hrel;have l:((bytesOf ((xs.take k).drop m)).map (·.toNat)).length=k-m:=by rw[List.length_map,Jj,List.length_drop,List.length_take];omega
 obtain⟨ad,H,rfl⟩:=z.shape;rw[l]at z ⊢;have R:=qh z;clear z;have A:=qh J;clear J;have a5:=A.o.size;have c:=qh l;clear l;by_cases a4:0<m
 ·obtain rfl:=S.o (by omega);have L:=X.o (by omega);have b2:=(A.o.cell (p:=(Ad bx (ox+(m-1)))) L).trans (s.o (m-1) (by omega));have b3:((nth xs (m-1):Nat):Int)<=9:=by have:=hd.o<|m-1;omega
  have Q:=Mq xs hk a4 hm (hd.o (m-1));have a2:=qh Q;clear Q;have D:wr.ownsRow w.heap.size 5 1 (.slice ad (k-m) H) (k-m) (vals .u8 ((bytesOf ((xs.take k).drop m)).map (·.toNat))):=by have:=R.o.raw;rwa [c.o]at this
  have F:=qh D;clear D;have N:(48+((nth xs (m-1):Nat):Int))=((48+nth xs (m-1):Nat):Int):=by omega
  have Y:=qh N;clear N
  go_wp2_with (at_builtin;refine wpList_append_own _ rfl (.tmp 26) (.tmp 33) 217 rfl w.heap.size 5 i0 (.int .u8 0) 1 1 underlying217 hi a9 b0 b1 rfl (by decide) _ _ _ rfl (World.ownsRow.alloc F.o _) (Ad wr.heap.size 0) 1 1 [.int .u8 (48+((nth xs (m-1):Nat):Int))] rfl rfl (cell_one_new _ _ _) (one_cell _ _) (by unfold maxLen;omega) (by omega) (by simp;omega) ?_;intro v' w1 o u _)
  rw[Y.o]at o;obtain⟨C,hb⟩:=R.o.appended A.o a5 (by rw[c.o];exact o) u;clear o u;rw[<-a2.o]at C;have a1:=qh C;clear C;have W:=qh hb;clear hb;go_wp2;go_roundw
  case rel=>exact⟨m-1,by omega,by go_num,a1.o,W.o⟩
  simp[intOf];omega
 obtain rfl:m=0:=by omega
 rw[List.drop_zero]at R;rw[Nat.sub_zero,List.drop_zero]at c;rw[Nat.sub_zero]
 rcases Nat.eq_zero_or_pos k with B|B
 ·have I:(((k:Nat):Int)==0)=true:=by rw[beq_iff_eq];omega
  have d:str (dec (dval xs))=⟨#[48]⟩:=by
   have:xs=[]:=List.length_eq_zero_iff.1 (by
    rcases Nat.eq_zero_or_pos xs.length with h|h
    ·exact h
    have:=U.o h;omega)
   rw[this];show str (dec 0)=_;rw[By (by omega)];rfl
  have HR:=qh d;clear d B;go_wp2;go_ret;exact⟨Dt HR.o.symm,A.o⟩
 have I:(((k:Nat):Int)==0)=false:=by rw[beq_eq_false_iff_ne];omega
 have C:=R.o;rw[Nat.sub_zero]at C;obtain⟨g,a7,hv,_⟩:=C.some (by rw[c.o];exact B);rw[c.o]at hv;simp only[Value.slice.injEq,true_and]at hv;obtain⟨rfl,rfl⟩:=hv;have O:=run_convert_bytes_back (P:=prog) wr 217 9 5 (Ad g 0) H (bytesOf (xs.take k)) underlying217 underlying5 underlying9 (Oo C (by rw[List.length_map]at c;exact c.o));have K:(bytesOf (xs.take k)).length=k:=by have:=c.o;rwa [List.length_map]at this
 rw[K]at O;have d:(⟨(bytesOf (xs.take k)).toArray⟩:ByteArray)=str (dec (dval xs)):=by
  have a6:k=1\/nth xs (k-1)≠0:=by
   rcases G.o with h|h|h
   ·omega
   ·exact .inl h
   exact .inr h
  rw[MA hd.o B Z.o hz.o a6];rfl
 rw[d]at O;clear K d C B;go_wp2;go_ret;exact⟨rfl,A.o⟩
variable{m n:Nat}
def Ig{p q:List UInt8}(h:dgts (p++q)=true):num (p++q)=num q+10 ^ q.length*num p:=by
 have c:dgts p=true/\dgts q=true:=by simpa [dgts,List.all_append] using h
 rw[<-(Cr h).2,<-(Cr c.1).2,<-(Cr c.2).2];have:digL (p++q)=digL q++digL p:=by simp[digL]
 rw[this,JC,Ce]
def CmpB(s t:ByteArray)(c:Int):Prop :=
 (s.size<t.size/\c=-1)\/(t.size<s.size/\c=1)\/(s.size=t.size/\((bts s=bts t/\c=0)\/
  ∃i,i<s.size/\(bts s).take i=(bts t).take i/\(((bts s).getD i 0).toNat<((bts t).getD i 0).toNat/\c=-1\/((bts t).getD i 0).toNat<((bts s).getD i 0).toNat/\c=1)))
def Oe{l r:List UInt8}(m:dgts l=true)(o:dgts r=true)(F:l.length=r.length)(i:Nat)(hi:i<l.length)(u:l.take i=r.take i)(z:(l.getD i 0).toNat<(r.getD i 0).toNat):num l<num r:=by
 have j:l=l.take i++(l.getD i 0::l.drop (i+1)):=by
  rw[List.getD_eq_getElem?_getD,List.getElem?_eq_getElem hi];simp
 have k:r=r.take i++(r.getD i 0::r.drop (i+1)):=by
  rw[List.getD_eq_getElem?_getD,List.getElem?_eq_getElem (by omega)];simp
 have g:(l.drop (i+1)).length=(r.drop (i+1)).length:=by rw[List.length_drop,List.length_drop,F]
 generalize l.take i=p at j u;generalize hcl:l.getD i 0=c at j z;generalize l.drop (i+1)=x at j g;generalize r.take i=p' at k u;generalize hcr:r.getD i 0=d at k z;generalize r.drop (i+1)=y at k g;subst u;rw[j]at m ⊢;rw[k]at o ⊢;have h:dgts (c::x)=true:=by simp only[dgts,List.all_append,Bool.and_eq_true]at m ⊢;exact m.2
 have C:dgts (d::y)=true:=by simp only[dgts,List.all_append,Bool.and_eq_true]at o ⊢;exact o.2
 have G:dgts x=true:=by simp only[dgts,List.all_cons,Bool.and_eq_true]at h ⊢;exact h.2
 have s:dgt c=true:=by simp only[dgts,List.all_cons,Bool.and_eq_true]at h;exact h.1
 rw[Ig m,Ig o];have A:num (c::x)=num x+10 ^ x.length*(c.toNat-48):=by
  have:=Ig (p:=[c]) (q:=x) h
  simpa [num] using this
 have B:num (d::y)=num y+10 ^ y.length*(d.toNat-48):=by
  have:=Ig (p:=[d]) (q:=y) C
  simpa [num] using this
 rw[A,B];simp only[List.length_cons,g];have D:=Kf x G;rw[g]at D;simp only[dgt,Bool.and_eq_true,decide_eq_true_eq]at s;have E:10 ^ y.length*(c.toNat-48+1)<=10 ^ y.length*(d.toNat-48):=Nat.mul_le_mul_left _ (by omega);rw[Nat.mul_add,Nat.mul_one]at E;omega
def Jr(h:(dec m).length<(dec n).length):m<n:=by
 rcases Nat.lt_or_ge m n with c|c
 ·exact c
 have:=(BK (n:=m) (k:=(dec m).length)).1 nlr;have:=(BK (n:=n) (k:=(dec m).length)).2 ⟨by omega,this.2⟩;omega
def Sr{c:Int}(h:CmpB (str (dec m)) (str (dec n)) c):c=cmpN m n:=by
 unfold CmpB at h;simp only[AL,AH]at h
 rcases h with⟨h,rfl⟩|⟨h,rfl⟩|⟨h,⟨j,rfl⟩|⟨i,hi,g,⟨d,rfl⟩|⟨d,rfl⟩⟩⟩
 ·rw[Cq (Jr h)]
 ·rw[CV (Jr h)]
 ·rw[DV (Cy j)]
 ·have:=Oe (CX m) (CX n) h i hi g d;rw[CH,CH]at this;rw[Cq this]
 have:=Oe (CX n) (CX m) h.symm i (by omega) g.symm d;rw[CH,CH]at this;rw[CV this]
theorem WB(s t:ByteArray)(w:World)(I:s.size<=100000):
  Calls prog 208 #[.string s,.string t] w λe w'=>∃c,CmpB s t c/\e=.returned (.int .i64 c)/\Below w.heap.size w w':=by
 by_cases E:s.size<t.size
 ·have d:CmpB s t (-1):=.inl ⟨E,rfl⟩;have B:=qh d;clear d;have o:((s.size:Int) != (t.size:Int))=true:=by rw[bne_iff_ne];omega
  go_enter func208,ntmps208
  go_wp2;go_ret;exact⟨_,B.o,rfl,blr⟩
 by_cases F:t.size<s.size
 ·have d:CmpB s t 1:=.inr<|.inl ⟨F,rfl⟩;have B:=qh d;clear d;have o:((s.size:Int) != (t.size:Int))=true:=by rw[bne_iff_ne];omega
  go_enter func208,ntmps208
  go_wp2;go_ret;exact⟨_,B.o,rfl,blr⟩
 have G:s.size=t.size:=by omega
 have u:=qh G;have o:((s.size:Int) != (t.size:Int))=false:=by rw[bne_eq_false_iff_eq];omega
 clear E F G
 go_enter func208,ntmps208
 go_wp2_with fail
 clear o
 go_loopw [5] (λi wr=>∃k:Nat,k<=s.size/\i=.int .i64 (k:Int)/\(bts s).take k=(bts t).take k/\Below w.heap.size w wr) (λi _=>s.size-(intOf i).toNat)
 case atStart=>exact⟨0,Nat.zero_le _,rfl,rfl,blr⟩
 obtain⟨k,H,rfl,g,hb⟩:=hrel;replace g:=qh g;replace hb:=qh hb;by_cases j:k<s.size
 ·have m:k<t.size:=by have:=u.o;omega
  rcases Nat.lt_trichotomy s[k].toNat t[k].toNat with d|d|d
  ·have l:CmpB s t (-1):=.inr (.inr ⟨u.o,.inr ⟨k,j,g.o,.inl ⟨by rw[Ep s k j,Ep t k m];exact d,rfl⟩⟩⟩);have z:=qh l;clear l;have A:((s[k].toNat:Int) != (t[k].toNat:Int))=true:=by rw[bne_iff_ne];omega
   have D:(s[k].toNat:Int)<(t[k].toNat:Int):=by omega
   go_wp2_with fail
   go_quiet (fail)
   go_wp2_with fail
   go_quiet (fail)
   go_wp2;go_ret;exact⟨_,z.o,rfl,below_drewN (below_drewN hb.o _) _⟩
  ·have p:(bts s).take (k+1)=(bts t).take (k+1):=by
    rw[EH s k j,EH t k m,g.o,UInt8.toNat_inj.1 d]
   replace p:=qh p;have A:((s[k].toNat:Int) != (t[k].toNat:Int))=false:=by rw[bne_eq_false_iff_eq];omega
   have C:=qh d;clear d
   go_wp2_with fail
   go_quiet (fail)
   go_wp2;go_roundw
   case rel=>exact⟨k+1,by omega,by go_num,p.o,below_drewN hb.o _⟩
   simp[intOf];omega
  have l:CmpB s t 1:=.inr (.inr ⟨u.o,.inr ⟨k,j,g.o,.inr ⟨by rw[Ep s k j,Ep t k m];exact d,rfl⟩⟩⟩);have z:=qh l;clear l;have A:((s[k].toNat:Int) != (t[k].toNat:Int))=true:=by rw[bne_iff_ne];omega
  have D:decide (s[k].toNat<t[k].toNat)=false:=decide_eq_false (by omega);have C:=qh d;clear d
  go_wp2_with fail
  go_quiet (fail)
  go_wp2_with fail
  go_quiet (fail)
  go_wp2;go_ret;exact⟨_,z.o,rfl,below_drewN (below_drewN hb.o _) _⟩
 have l:CmpB s t 0:=.inr (.inr ⟨u.o,.inl ⟨by
  have h:=g.o
  rwa [List.take_of_length_le (by rw[Aq];omega),List.take_of_length_le (by rw[Aq];have:=u.o;omega)]at h,rfl⟩⟩)
 have z:=qh l;clear l;go_wp2;go_ret;exact⟨_,z.o,rfl,hb.o⟩
def KA(m n:Nat)(w:World)(i:(dec m).length<=100000):
  Calls prog 208 #[.string (str (dec m)),.string (str (dec n))] w (CmpEnd m n w) :=
 (WB _ _ w (by rw[AH];exact i)).mono λe j ⟨c,d,g,h⟩=>⟨by rw[g,Sr d],h⟩
def WA(s t:ByteArray)(w:World)(l:s.size<=maxLen)(m:t.size<=maxLen):
  Calls prog 173 #[.string s,.string t] w (IntEnd (cmpF s t) w):=by
 have c1:=λw=>Cm s w l;have c2:=λw=>Cm t w m;clear l m;cases c:vld s with
 |false =>
  have g:cmpF s t=0:=by unfold cmpF;rw[c];rfl
  rw[g];unfold vld at c;rw[c]at c1;clear g c c2;have h:=qh c1;clear c1
  go_enter func173,ntmps173
  go_wp2_with fail
  refine(h.o _).mono ?_;rintro e i⟨rfl,rfl⟩;go_wp2;go_ret;exact⟨rfl,blr⟩
 |true =>
  cases d:vld t with
  |false =>
   have g:cmpF s t=0:=by unfold cmpF;rw[c,d];rfl
   rw[g];unfold vld at c d;rw[c]at c1;rw[d]at c2;clear g c d;have h:=qh c1;clear c1;have k:=qh c2;clear c2
   go_enter func173,ntmps173
   go_wp2_with fail
   refine(h.o _).mono ?_;rintro e i⟨rfl,rfl⟩
   go_wp2_with fail
   refine(k.o _).mono ?_;rintro e i⟨rfl,rfl⟩;go_wp2;go_ret;exact⟨rfl,blr⟩
  |true =>
   rw[show As (bts s)=true from c]at c1;rw[show As (bts t)=true from d]at c2;have h:=qh c1;clear c1;have k:=qh c2;clear c2;replace c:=qh c;replace d:=qh d;have g:cmpF s t=cmpN (val s) (val t):=by unfold cmpF;rw[c.o,d.o];rfl
   have j:=λw=>KA (val s) (val t) w (by have:=FO c.o;unfold fits at this;omega);rw[EC c.o,EC d.o]at j;rw[g];clear g;replace j:=qh j
   go_enter func173,ntmps173
   go_wp2_with fail
   refine(h.o _).mono ?_;rintro e i⟨rfl,rfl⟩
   go_wp2_with fail
   refine(k.o _).mono ?_;rintro e i⟨rfl,rfl⟩
   go_wp2_with fail
   refine(j.o _).mono ?_;rintro e i⟨rfl,hb⟩;replace hb:=qh hb;go_wp2;go_ret;exact⟨rfl,hb.o⟩
variable{d l:List Nat}{a b c:Nat}
def OU(n:Nat)(w:World):
  Calls prog 206 #[.string (str (dec n))] w λe w'=>e=.returned (.tuple #[.string (limS n).1,.int .i64 ((limS n).2:Int)])/\w=w':=by
 have g:=AH<|dec n;by_cases h:(dec n).length<=1000
 ·have d:limS n=(str (dec n),0):=by unfold limS;rw[ifp h]
  have i:((str (dec n)).size:Int)<=1000:=by omega
  have c:=qh d;clear d h g
  go_enter func206,ntmps206
  go_wp2;go_ret2;exact⟨Iw (by rw[c.o]) (by rw[c.o];rfl),rfl⟩
 have d:limS n=(str [],2):=by unfold limS;rw[ifn h]
 have i:(1000:Int)<((str (dec n)).size:Int):=by omega
 have c:=qh d;clear d h g
 go_enter func206,ntmps206
 go_wp2;go_ret2;exact⟨Iw (by rw[c.o];rfl) (by rw[c.o];rfl),rfl⟩
def AddI(xs ys l:List Nat)(k c:Nat):Prop:=dval l+10 ^ k*c=dval (xs.take k)+dval (ys.take k)/\Dig l/\l.length=k/\c<=1
def Rb(h:AddI xs d l k c)(j:a=nth xs k)(hb:b=nth d k)(o:a<10)(p:b<10):AddI xs d (l++[(a+b+c) % 10]) (k+1) ((a+b+c) / 10):=by
 obtain⟨s,i,g,u⟩:=h;refine⟨?_,MG i (by omega),by rw[List.length_append,g];rfl,by omega⟩;rw[JD,g,EU,EU,<-j,<-hb,Nat.pow_succ,Nat.mul_assoc];have e:=Nat.mod_add_div (a+b+c) 10;have m:10 ^ k*((a+b+c) % 10)+10 ^ k*(10*((a+b+c) / 10))=10 ^ k*a+10 ^ k*b+10 ^ k*c:=by
  rw[<-Nat.mul_add,e,Nat.mul_add,Nat.mul_add]
 omega
def QZ(h:AddI xs d l k c)(i:Dig xs)(m:Dig d)(s:xs.length<k)(u:d.length<k):dval l=dval xs+dval d:=by
 obtain⟨g,z,A,B⟩:=h;rw[List.take_of_length_le (by omega),List.take_of_length_le (by omega)]at g;obtain⟨j,rfl⟩:∃j,k=j+1:=⟨k-1,by omega⟩;have o:dval xs<10 ^ j:=Nat.lt_of_lt_of_le (FL i) (Nat.pow_le_pow_right (by omega) (by omega));have p:dval d<10 ^ j:=Nat.lt_of_lt_of_le (FL m) (Nat.pow_le_pow_right (by omega) (by omega));rw[Nat.pow_succ]at g;have:c=0:=by
  rcases Nat.eq_zero_or_pos c with h|h
  ·exact h
  have:10 ^ j*10*1<=10 ^ j*10*c:=Nat.mul_le_mul_left _ h;omega
 subst this;omega
def LessI(xs ys l:List Nat)(k c:Nat):Prop:=dval l+dval (ys.take k)=dval (xs.take k)+10 ^ k*c/\Dig l/\l.length=k/\c<=1
def Nk{i:List Nat}{d c':Nat}(h:LessI xs i l k c)(o:a=nth xs k)(hb:b=nth i k)(hd:d<10)(p:d+b+c=a+10*c')(g:c'<=1):LessI xs i (l++[d]) (k+1) c':=by
 obtain⟨u,m,j,z⟩:=h;refine⟨?_,MG m hd,by rw[List.length_append,j];rfl,g⟩;rw[JD,j,EU,EU,<-o,<-hb,Nat.pow_succ,Nat.mul_assoc];have s:10 ^ k*d+10 ^ k*b+10 ^ k*c=10 ^ k*a+10 ^ k*(10*c'):=by
  rw[<-Nat.mul_add,<-Nat.mul_add,p,Nat.mul_add]
 omega
def UB(h:LessI xs d l xs.length c)(o:d.length<=xs.length)(p:dval d<=dval xs):dval l=dval xs-dval d/\Dig l/\l.length=xs.length:=by
 obtain⟨k,g,i,m⟩:=h;rw[List.take_of_length_le (by omega),List.take_of_length_le (by omega)]at k;have j:=FL g;rw[i]at j;have:c=0:=by
  rcases Nat.eq_zero_or_pos c with h|h
  ·exact h
  have:10 ^ xs.length*1<=10 ^ xs.length*c:=Nat.mul_le_mul_left _ h;omega
 subst this;exact⟨by omega,g,i⟩
def OT(vx vy:Value)(xs z:List Nat)(w:World)(K:Sl w .i64 vx xs)(L:Sl w .i64 vy z)(R:Dig xs)(S:Dig z)(T:z.length<=xs.length)(U:dval z<=dval xs)(a6:xs.length<=100000):
  Calls prog 209 #[vx,vy] w λe w'=>∃ls,dval ls=dval xs-dval z/\Dig ls/\ls.length=xs.length/\ListEnd ls w e w':=by
 obtain⟨i0,hi,N,O,P⟩:=info_parts Hr;obtain⟨ax,cx,rfl⟩:=K.shape;obtain⟨ay,cy,rfl⟩:=L.shape;replace K:=qh K;replace L:=qh L;replace R:=qh R;replace S:=qh S;replace T:=qh T;replace U:=qh U
 go_enter func209,ntmps209
 go_wp2_with fail
 go_loopw [5,6,7] (λv c i wr=>∃(k o:Nat) (l:List Nat),k<=xs.length/\i=.int .i64 (k:Int)/\c=.int .i64 (o:Int)/\LessI xs z l k o/\Own wr w.heap.size 3 .i64 v l/\Below w.heap.size w wr) (λ_ _ i _=>xs.length-(intOf i).toNat)
 case atStart=>exact⟨0,0,[],Nat.zero_le _,rfl,rfl,⟨by simp[dval],Jw,rfl,by omega⟩,Own.nil _ _ _ _,blr⟩
 obtain⟨k,o,l,hk,rfl,rfl,m,j,hb⟩:=hrel;have G:l.length=k:=m.2.2.1;have a4:(o:Int)<=1:=by have:=m.2.2.2;omega
 replace m:=qh m;obtain⟨ad,Q,rfl⟩:=j.shape;rw[G]at j ⊢;replace j:=qh j;have A:=qh hb;clear hb;have J:=A.o.size;have D:=qh G;clear G;by_cases a5:k<xs.length
 ·obtain⟨a,F⟩:=exq<|nth xs k;obtain⟨b,hb⟩:=exq<|nth z k;have a1:(a:Int)<=9:=by have:=R.o k;rw[<-F]at this;omega
  have a2:(b:Int)<=9:=by have:=S.o k;rw[<-hb]at this;omega
  replace F:=qh F;have u:=qh hb;clear hb;have p:wr.ownsRow w.heap.size 3 1 (.slice ad k Q) k (vals .i64 l):=by have:=j.o.raw;rwa [D.o]at this
  replace p:=qh p;by_cases h:a<b+o
  ·have hg:decide (((a:Int)-(b:Int)-(o:Int))<0)=true:=decide_eq_true (by omega);have s:((a:Int)-(b:Int)-(o:Int)+10)=(((a+10-b-o):Nat):Int):=by omega
   have C:=qh s;clear s;replace h:=qh h
   go_wp2_with fail
   have q1:=Ez _ xs k wr (K.o.below A.o nlr) (by omega);rw[<-F.o]at q1;refine q1.mono ?_;clear q1;rintro e W⟨rfl,rfl⟩
   go_wp2_with fail
   have q2:=Ez _ z k wr (L.o.below A.o nlr) (by omega);rw[<-u.o]at q2;refine q2.mono ?_;clear q2;rintro e W⟨rfl,rfl⟩
   go_wp2_with (at_builtin;refine wpList_append_own _ rfl (.tmp 28) (.tmp 30) 26 rfl w.heap.size 3 i0 (.int .i64 0) 1 8 underlying26 hi N O P rfl (by decide) _ _ _ rfl (World.ownsRow.alloc p.o _) (Ad wr.heap.size 0) 1 1 [.int .i64 ((a:Int)-(b:Int)-(o:Int)+10)] rfl rfl (cell_one_new _ _ _) (one_cell _ _) (by unfold maxLen;omega) (by omega) (by simp;omega) ?_;intro v' w1 d g _)
   rw[C.o]at d;obtain⟨I,hb⟩:=j.o.appended A.o J (by rw[D.o];exact d) g;clear d g;have E:=qh I;clear I;have B:=qh hb;clear hb
   try go_wp2
   go_roundw
   case rel=>exact⟨k+1,1,l++[(a+10-b-o)],by omega,by go_num,rfl,Nk m.o F.o u.o (by have:=h.o;omega) (by have:=h.o;omega) (by omega),E.o,B.o⟩
   simp[intOf];omega
  have hg:decide (((a:Int)-(b:Int)-(o:Int))<0)=false:=decide_eq_false (by omega);have s:((a:Int)-(b:Int)-(o:Int))=(((a-b-o):Nat):Int):=by omega
  have C:=qh s;clear s;replace h:=qh h
  go_wp2_with fail
  have q1:=Ez _ xs k wr (K.o.below A.o nlr) (by omega);rw[<-F.o]at q1;refine q1.mono ?_;clear q1;rintro e W⟨rfl,rfl⟩
  go_wp2_with fail
  have q2:=Ez _ z k wr (L.o.below A.o nlr) (by omega);rw[<-u.o]at q2;refine q2.mono ?_;clear q2;rintro e W⟨rfl,rfl⟩
  go_wp2_with (at_builtin;refine wpList_append_own _ rfl (.tmp 28) (.tmp 30) 26 rfl w.heap.size 3 i0 (.int .i64 0) 1 8 underlying26 hi N O P rfl (by decide) _ _ _ rfl (World.ownsRow.alloc p.o _) (Ad wr.heap.size 0) 1 1 [.int .i64 ((a:Int)-(b:Int)-(o:Int))] rfl rfl (cell_one_new _ _ _) (one_cell _ _) (by unfold maxLen;omega) (by omega) (by simp;omega) ?_;intro v' w1 d g _)
  rw[C.o]at d;obtain⟨I,hb⟩:=j.o.appended A.o J (by rw[D.o];exact d) g;clear d g;have E:=qh I;clear I;have B:=qh hb;clear hb
  try go_wp2
  go_roundw
  case rel=>exact⟨k+1,0,l++[(a-b-o)],by omega,by go_num,rfl,Nk m.o F.o u.o (by have:=h.o;omega) (by have:=h.o;omega) (by omega),E.o,B.o⟩
  simp[intOf];omega
 have H:k=xs.length:=by omega
 have hi:=m.o;rw[H]at hi;obtain⟨X,Y,Z⟩:=UB hi T.o U.o;have E1:=qh X;have E2:=qh Y;have E3:=qh Z;clear X Y Z hi H;go_wp2;go_ret;exact⟨l,E1.o,E2.o,E3.o,_,rfl,j.o,A.o⟩
def Wy(s t:ByteArray)(w:World)(hs:s.size<=maxLen)(ht:t.size<=maxLen):
  Calls prog 172 #[.string s,.string t] w (PairEnd (addF s t) w):=by
 have c1:=λw=>Cm s w hs;have c2:=λw=>Cm t w ht;clear hs ht;cases h:vld s with
 |false =>
  have K:addF s t=(str [],1):=by unfold addF;rw[h];rfl
  rw[K];unfold vld at h;rw[h]at c1;clear K h c2;have W:=qh c1;clear c1
  go_enter func172,ntmps172
  go_wp2_with fail
  refine(W.o _).mono ?_;rintro e w'⟨rfl,rfl⟩;go_wp2;go_ret2;exact⟨rfl,blr⟩
 |true =>
  cases z:vld t with
  |false =>
   have K:addF s t=(str [],1):=by unfold addF;rw[h,z];rfl
   rw[K];unfold vld at h z;rw[h]at c1;rw[z]at c2;clear K h z;have W:=qh c1;clear c1;have C2:=qh c2;clear c2
   go_enter func172,ntmps172
   go_wp2_with fail
   refine(W.o _).mono ?_;rintro e w'⟨rfl,rfl⟩
   go_wp2_with fail
   refine(C2.o _).mono ?_;rintro e w'⟨rfl,rfl⟩;go_wp2;go_ret2;exact⟨rfl,blr⟩
  |true =>
   rw[show As (bts s)=true from h]at c1;rw[show As (bts t)=true from z]at c2;have W:=qh c1;clear c1;have C2:=qh c2;clear c2;replace h:=qh h;replace z:=qh z;have K:addF s t=limS (val s+val t):=by unfold addF;rw[h.o,z.o];rfl
   rw[K];clear K;have d1:=λw=>Ee s w (by have:=BI h.o;omega) (Bc h.o).2.2.2;replace d1:=qh d1;have d2:=λw=>Ee t w (by have:=BI z.o;omega) (Bc z.o).2.2.2;replace d2:=qh d2;have o1:=Cr (Bc h.o).2.2.2;have U:=Cr (Bc z.o).2.2.2;have a9:=(BI h.o).2;have b0:=(BI z.o).2;have n1:=Ce<|bts s;have n2:=Ce<|bts t;rw[Aq]at n1 n2;obtain⟨u,I⟩:=exq<|digL (bts s);obtain⟨A,J⟩:=exq<|digL (bts t);rw[<-I]at o1 n1;rw[<-J]at U n2;have d4:u.length<=1000:=by omega
   have d5:A.length<=1000:=by omega
   replace o1:=qh o1;replace U:=qh U;replace I:=qh I;replace J:=qh J;clear a9 b0 n1 n2
   go_enter func172,ntmps172
   go_wp2_with fail
   refine(W.o _).mono ?_;rintro e w'⟨rfl,rfl⟩
   go_wp2_with fail
   refine(C2.o _).mono ?_;rintro e w'⟨rfl,rfl⟩
   go_wp2_with fail
   refine(d1.o w).mono ?_;rintro e w1⟨v1,rfl,B,G⟩;rw[<-I.o]at B;obtain⟨ax,cx,rfl⟩:=B.shape;replace B:=qh B;replace G:=qh G;have b2:=G.o.size
   go_wp2_with fail
   refine(d2.o w1).mono ?_;rintro e w2⟨v2,rfl,C,O⟩;rw[<-J.o]at C;obtain⟨ay,cy,rfl⟩:=C.shape;replace C:=qh C;have o:=G.o.trans<|O.mono b2;have S:=B.o.sl.below O nlr;replace o:=qh o;clear O;have b3:=o.o.size;replace S:=qh S;have T:=C.o.sl;replace T:=qh T
   go_wp2_with fail
   obtain⟨i0,hi,b1,a2,a4⟩:=info_parts Hr
   go_loopw [8,9,10] (λv c i wr=>∃(k F:Nat) (l:List Nat),k<=max u.length A.length+1/\i=.int .i64 (k:Int)/\c=.int .i64 (F:Int)/\AddI u A l k F/\Own wr w2.heap.size 3 .i64 v l/\Below w2.heap.size w2 wr) (λ_ _ i _=>max u.length A.length+1-(intOf i).toNat)
   case atStart=>exact⟨0,0,[],Nat.zero_le _,rfl,rfl,⟨by simp[dval],Jw,rfl,by omega⟩,Own.nil _ _ _ _,blr⟩
   obtain⟨k,F,l,hk,rfl,rfl,d,g,hb⟩:=hrel;have R:l.length=k:=d.2.2.1;have b8:(F:Int)<=1:=by have:=d.2.2.2;omega
   replace d:=qh d;have a5:k<=1001:=by omega
   replace hk:=qh hk;obtain⟨ad,a7,rfl⟩:=g.shape;rw[R]at g ⊢;replace g:=qh g;have X:=qh hb;clear hb;have a8:=X.o.size;have L:=qh R;clear R;by_cases H:k<=u.length\/k<=A.length
   ·obtain⟨a,Z⟩:=exq<|nth u k;obtain⟨b,hb⟩:=exq<|nth A k;have b6:(a:Int)<=9:=by have:=o1.o.1 k;rw[<-Z]at this;omega
    have b7:(b:Int)<=9:=by have:=U.o.1 k;rw[<-hb]at this;omega
    replace Z:=qh Z;have Y:=qh hb;clear hb;have D:wr.ownsRow w2.heap.size 3 1 (.slice ad k a7) k (vals .i64 l):=by have:=g.o.raw;rwa [L.o]at this
    replace D:=qh D;have N:=qh H;have Q:(((a:Int)+(b:Int)+(F:Int)) % 10)=(((a+b+F) % 10:Nat):Int):=by omega
    replace Q:=qh Q;by_cases b5:k<=u.length
    rotate_left
    have b4:k<=A.length:=by omega
    have hg:decide ((k:Int)<=(u.length:Int))=false:=decide_eq_false (by omega)
    all_goals
     clear H
     go_wp2_with fail
     have q1:=Ez _ u k wr (S.o.below X.o nlr) (by omega);rw[<-Z.o]at q1;refine q1.mono ?_;clear q1;rintro e w0⟨rfl,rfl⟩
     go_wp2_with fail
     have q2:=Ez _ A k wr (T.o.below X.o nlr) (by omega);rw[<-Y.o]at q2;refine q2.mono ?_;clear q2;rintro e w0⟨rfl,rfl⟩
     go_wp2_with (at_builtin;refine wpList_append_own _ rfl (.tmp 45) (.tmp 48) 26 rfl w2.heap.size 3 i0 (.int .i64 0) 1 8 underlying26 hi b1 a2 a4 rfl (by decide) _ _ _ rfl (World.ownsRow.alloc D.o _) (Ad wr.heap.size 0) 1 1 [.int .i64 (((a:Int)+(b:Int)+(F:Int)) % 10)] rfl rfl (cell_one_new _ _ _) (one_cell _ _) (by unfold maxLen;omega) (by omega) (by simp;omega) ?_;intro v' d6 j p _)
     rw[Q.o]at j;obtain⟨ho,hb⟩:=g.o.appended X.o a8 (by rw[L.o];exact j) p;clear j p;replace ho:=qh ho;have a6:=qh hb;clear hb
     try go_wp2
     go_roundw
     case rel=>exact⟨k+1,(a+b+F) / 10,l++[(a+b+F) % 10],by have:=N.o;omega,by go_num,by go_num,Rb d.o Z.o Y.o (by omega) (by omega),ho.o,a6.o⟩
     have:=N.o;have:=hk.o;simp[intOf];omega
   have hg:decide ((k:Int)<=(u.length:Int))=false:=decide_eq_false (by omega);have b9:decide ((k:Int)<=(A.length:Int))=false:=decide_eq_false (by omega);have d0:u.length<k:=by omega
   have d3:A.length<k:=by omega
   have E:=QZ d.o o1.o.1 U.o.1 (by omega) (by omega);rw[o1.o.2,U.o.2]at E;have m:dval l=val s+val t:=E;clear E;replace m:=qh m;have N:=qh H;clear H
   go_wp2_with fail
   have q3:=Iy _ l wr g.o.sl d.o.2.1 (by rw[L.o];omega);rw[m.o]at q3;refine q3.mono ?_;clear q3;rintro e w4⟨rfl,a1⟩;have P:=o.o.trans<|(X.o.mono b3).trans (a1.mono (by omega));replace P:=qh P;clear a1
   go_wp2_with fail
   refine(OU (val s+val t) w4).mono ?_;rintro e w5⟨rfl,rfl⟩;go_wp2;go_ret2;exact⟨rfl,P.o⟩
def Xf(s t:ByteArray)(w:World)(hs:s.size<=maxLen)(ht:t.size<=maxLen):
  Calls prog 174 #[.string s,.string t] w (PairEnd (subF s t) w):=by
 have c1:=λw=>Cm s w hs;have c2:=λw=>Cm t w ht;clear hs ht;cases c:vld s with
 |false =>
  have z:subF s t=(str [],1):=by unfold subF;rw[c];rfl
  rw[z];unfold vld at c;rw[c]at c1;clear z c c2;have P:=qh c1;clear c1
  go_enter func174,ntmps174
  go_wp2_with fail
  refine(P.o _).mono ?_;rintro e R⟨rfl,rfl⟩;go_wp2;go_ret2;exact⟨rfl,blr⟩
 |true =>
  cases g:vld t with
  |false =>
   have z:subF s t=(str [],1):=by unfold subF;rw[c,g];rfl
   rw[z];unfold vld at c g;rw[c]at c1;rw[g]at c2;clear z c g;have P:=qh c1;clear c1;have Y:=qh c2;clear c2
   go_enter func174,ntmps174
   go_wp2_with fail
   refine(P.o _).mono ?_;rintro e R⟨rfl,rfl⟩
   go_wp2_with fail
   refine(Y.o _).mono ?_;rintro e R⟨rfl,rfl⟩;go_wp2;go_ret2;exact⟨rfl,blr⟩
  |true =>
   rw[show As (bts s)=true from c]at c1;rw[show As (bts t)=true from g]at c2;have P:=qh c1;clear c1;have Y:=qh c2;clear c2;replace c:=qh c;replace g:=qh g;have W:=λw=>KA (val s) (val t) w (by have:=FO c.o;unfold fits at this;omega);rw[EC c.o,EC g.o]at W;have d1:=λw=>Ee s w (by have:=BI c.o;omega) (Bc c.o).2.2.2;replace d1:=qh d1;have d2:=λw=>Ee t w (by have:=BI g.o;omega) (Bc g.o).2.2.2;replace d2:=qh d2;have o1:=Cr (Bc c.o).2.2.2;have Q:=Cr (Bc g.o).2.2.2;have a2:=(BI c.o).2;have a4:=(BI g.o).2;have n1:=Ce<|bts s;have n2:=Ce<|bts t;rw[Aq]at n1 n2;obtain⟨N,A⟩:=exq<|digL (bts s);obtain⟨O,B⟩:=exq<|digL (bts t);rw[<-A]at o1 n1;rw[<-B]at Q n2;have b0:N.length<=1000:=by omega
   have b1:O.length<=1000:=by omega
   replace o1:=qh o1;replace Q:=qh Q;replace A:=qh A;replace B:=qh B;clear a2 a4 n1 n2;have a1:cmpN (val s) (val t)=if val s<val t then -1 else if val t<val s then 1 else 0:=rfl
   clear a1;replace W:=qh W;by_cases d:val s<val t
   ·have z:subF s t=(str [],4):=by unfold subF;rw[c.o,g.o,ifp d];rfl
    rw[z];clear z;have E:=Cq d;have Z:=qh E;clear E d
    go_enter func174,ntmps174
    go_wp2_with fail
    refine(P.o _).mono ?_;rintro e R⟨rfl,rfl⟩
    go_wp2_with fail
    refine(Y.o _).mono ?_;rintro e R⟨rfl,rfl⟩
    go_wp2_with fail
    have q0:=W.o w;unfold CmpEnd at q0;rw[Z.o]at q0;refine q0.mono ?_;clear q0;rintro e w0⟨rfl,m⟩;have C:=qh m;clear m;go_wp2;go_ret2;exact⟨rfl,C.o⟩
   have z:subF s t=(str (dec (val s-val t)),0):=by unfold subF;rw[c.o,g.o,ifn d];rfl
   rw[z];clear z;have E:(0:Int)<=cmpN (val s) (val t):=by unfold cmpN;rw[ifn d];split<;>decide
   obtain⟨cc,D⟩:=exq<|cmpN (val s) (val t);rw[<-D]at E;replace D:=qh D;have I:O.length<=N.length:=by
    rw[B.o,A.o,Ce,Ce];have e1:bts s=dec (val s):=by unfold val;rw[BV c.o]
    have e2:bts t=dec (val t):=by unfold val;rw[BV g.o]
    rw[e1,e2]
    rcases Nat.lt_or_ge (dec (val s)).length (dec (val t)).length with h|h
    ·exact absurd (Jr h) d
    exact h
   have K:dval O<=dval N:=by rw[o1.o.2,Q.o.2];exact Nat.le_of_not_lt d
   have J:dval N-dval O=val s-val t:=by rw[o1.o.2,Q.o.2];rfl
   replace I:=qh I;replace K:=qh K;replace J:=qh J;clear d
   go_enter func174,ntmps174
   go_wp2_with fail
   refine(P.o _).mono ?_;rintro e R⟨rfl,rfl⟩
   go_wp2_with fail
   refine(Y.o _).mono ?_;rintro e R⟨rfl,rfl⟩
   go_wp2_with fail
   have q0:=W.o w;unfold CmpEnd at q0;rw[<-D.o]at q0;refine q0.mono ?_;clear q0;rintro e w0⟨rfl,m⟩;have C:=qh m;clear m;have a5:=C.o.size
   go_wp2_with fail
   refine(d1.o w0).mono ?_;rintro e w1⟨v1,rfl,p,S⟩;rw[<-A.o]at p;obtain⟨ax,cx,rfl⟩:=p.shape;replace p:=qh p;have i:=C.o.trans<|S.mono a5;replace i:=qh i;clear S;have a6:=i.o.size
   go_wp2_with fail
   refine(d2.o w1).mono ?_;rintro e w2⟨v2,rfl,u,G⟩;rw[<-B.o]at u;obtain⟨ay,cy,rfl⟩:=u.shape;replace u:=qh u;have j:=i.o.trans<|G.mono a6;have L:=p.o.sl.below G nlr;replace j:=qh j;clear G;have a7:=j.o.size;replace L:=qh L
   go_wp2_with fail
   refine(OT _ _ N O w2 L.o u.o.sl o1.o.1 Q.o.1 I.o K.o (by omega)).mono ?_;rintro e w3⟨ls,l,o,X,v3,rfl,F,T⟩;obtain⟨al,cl,rfl⟩:=F.shape;rw[J.o]at l;replace l:=qh l;replace o:=qh o;have a9:ls.length<=1000:=by omega
   clear X;replace F:=qh F;have k:=j.o.trans<|T.mono a7;replace k:=qh k;clear T;have a8:=k.o.size
   go_wp2_with fail
   have q3:=Iy _ ls w3 F.o.sl o.o (by omega);rw[l.o]at q3;refine q3.mono ?_;clear q3;rintro e w4⟨rfl,U⟩;have H:=k.o.trans<|U.mono a8;replace H:=qh H;clear U;go_wp2;go_ret2;exact⟨rfl,H.o⟩
variable{L:List Nat}{i l x y:Nat}
def SX(h:Dig L)(j v:Nat)(d:v<10):Dig (L.set j v):=λi=>by
 by_cases c:j<L.length
 ·rw[Fl L j v i c];split
  ·exact d
  exact h i
 rw[List.set_eq_of_length_le (by omega)];exact h i
def To(L:List Nat):∀(j v:Nat),j<L.length->dval (L.set j v)+10 ^ j*nth L j=dval L+10 ^ j*v:=by
 induction L with
 |nil=>intro j v h;simp at h
 |cons x L ih =>
  intro j v h;cases j with
  |zero=>simp only[List.set_cons_zero,dval,Ke,Nat.pow_zero];omega
  |succ j =>
   have:=ih j v (by simpa using h);simp only[List.set_cons_succ,dval,Ie,Nat.pow_succ];have e:10*(dval (L.set j v)+10 ^ j*nth L j)=10*(dval L+10 ^ j*v):=by rw[this]
   rw[Nat.mul_add,Nat.mul_add,<-Nat.mul_assoc,<-Nat.mul_assoc,Nat.mul_comm 10 (10 ^ j)]at e;omega
theorem NZ(k i:Nat):nth (List.replicate k 0) i=0:=by unfold nth;simp[List.getD_eq_getElem?_getD,List.getElem?_replicate];split<;>rfl
structure MulIR(xs ys L:List Nat)(i k c:Nat):Prop where
 dig:Dig L
 carry:c<10
 len:L.length=xs.length+ys.length+1
 val:dval L+10 ^ (i+k)*c=dval (xs.take i)*dval ys+10 ^ i*(nth xs i*dval (ys.take k))
structure MulOR(xs ys L:List Nat)(i:Nat):Prop where
 dig:Dig L
 len:L.length=xs.length+ys.length+1
 val:dval L=dval (xs.take i)*dval ys
theorem MulOR.start(xs c:List Nat):MulOR xs c (List.replicate (xs.length+c.length+1) 0) 0 :=
 ⟨λi=>by rw[NZ];omega,by simp,by rw[ML (NZ _)];simp[dval]⟩
def MulOR.inner{c:List Nat}(h:MulOR xs c L i):MulIR xs c L i 0 0 :=
 ⟨h.dig,by omega,h.len,by rw[h.val];simp[dval]⟩
def Vd(d:l<10)(g:c<10)(h:x<10)(i:y<10):l+x*y+c<100:=by
 have:x*y<=9*9:=Nat.mul_le_mul (by omega) (by omega);omega
def MulIR.step{k:Nat}(h:MulIR xs d L i k c)(C:Dig xs)(D:Dig d)(hi:i<xs.length)(E:k<d.length+1)(u:l=nth L (i+k))(o:x=nth xs i)(z:y=nth d k):
  MulIR xs d (L.set (i+k) ((l+x*y+c) % 10)) i (k+1) ((l+x*y+c) / 10):=by
 have hb:=Vd (h.dig (i+k)) h.carry (C i) (D k);have s:i+k<L.length:=by rw[h.len];omega
 have g:=To L (i+k) ((l+x*y+c) % 10) s;have m:=h.val;have j:=EU d k;rw[<-u,<-o,<-z]at hb;rw[<-u]at g;rw[<-z]at j;rw[<-o]at m;generalize hp:l+x*y+c=p at *;have A:10 ^ (i+k)*l+10 ^ (i+k)*(x*y)+10 ^ (i+k)*c=10 ^ (i+k)*p:=by rw[<-hp,Nat.mul_add,Nat.mul_add]
 have B:10 ^ (i+k)*p=10 ^ (i+k)*(p % 10)+10 ^ (i+k)*10*(p / 10):=by
  rw[Nat.mul_assoc,<-Nat.mul_add,Nat.mod_add_div]
 refine⟨SX h.dig _ _ (by omega),by omega,by simp[h.len],?_⟩;rw[j,Nat.mul_add,Nat.mul_add,show i+(k+1)=i+k+1 by omega,Nat.pow_succ 10 (i+k),<-o];have e:10 ^ i*(x*(10 ^ k*y))=10 ^ (i+k)*(x*y):=by
  rw[Nat.pow_add,Nat.mul_left_comm x,Nat.mul_assoc]
 rw[e];omega
def MulIR.done(h:MulIR xs d L i (d.length+1) c)(m:Dig xs)(o:Dig d)(hi:i<xs.length):MulOR xs d L (i+1):=by
 refine⟨h.dig,h.len,?_⟩;have g:=h.val;rw[List.take_of_length_le (by omega:d.length<=d.length+1)]at g;have e:dval (xs.take i)*dval d+10 ^ i*(nth xs i*dval d)=dval (xs.take (i+1))*dval d:=by
  rw[EU,Nat.add_mul,Nat.mul_assoc]
 rw[e]at g;have k:dval (xs.take (i+1))<10 ^ (i+1):=by
  have:=FL<|Hk m (i+1);rw[List.length_take,Nat.min_eq_left (by omega)]at this;exact this
 have p:=FL o;have l:dval (xs.take (i+1))*dval d<10 ^ (i+1)*10 ^ d.length:=by
  have s:dval (xs.take (i+1))*dval d<=dval (xs.take (i+1))*10 ^ d.length:=Nat.mul_le_mul_left _ (by omega);have u:dval (xs.take (i+1))*10 ^ d.length<10 ^ (i+1)*10 ^ d.length:=Nat.mul_lt_mul_of_pos_right k (Nat.pow_pos (by omega));omega
 rw[<-Nat.pow_add,show i+1+d.length=i+(d.length+1) by omega]at l
 rcases Nat.eq_zero_or_pos c with j|j
 ·subst j;rw[Nat.mul_zero,Nat.add_zero]at g;exact g
 have:10 ^ (i+(d.length+1))*1<=10 ^ (i+(d.length+1))*c:=Nat.mul_le_mul_left _ j;omega
def MulOR.done{c:List Nat}(h:MulOR xs c L xs.length):dval L=dval xs*dval c:=by rw[h.val,List.take_length]
set_option maxRecDepth 100000 in
theorem WP(s t:ByteArray)(w:World)(hs:s.size<=maxLen)(ht:t.size<=maxLen):
  Calls prog 175 #[.string s,.string t] w (PairEnd (mulF s t) w):=by
 have c1:=λw=>Cm s w hs;have c2:=λw=>Cm t w ht;clear hs ht;cases G:vld s with
 |false =>
  have Y:mulF s t=(str [],1):=by unfold mulF;rw[G];rfl
  rw[Y];unfold vld at G;rw[G]at c1;clear Y G c2;have C1:=qh c1;clear c1
  go_enter func175,ntmps175
  go_wp2_with fail
  refine(C1.o _).mono ?_;rintro e w'⟨rfl,rfl⟩;go_wp2;go_ret2;exact⟨rfl,blr⟩
 |true =>
  cases I:vld t with
  |false =>
   have Y:mulF s t=(str [],1):=by unfold mulF;rw[G,I];rfl
   rw[Y];unfold vld at G I;rw[G]at c1;rw[I]at c2;clear Y G I;have C1:=qh c1;clear c1;have C2:=qh c2;clear c2
   go_enter func175,ntmps175
   go_wp2_with fail
   refine(C1.o _).mono ?_;rintro e w'⟨rfl,rfl⟩
   go_wp2_with fail
   refine(C2.o _).mono ?_;rintro e w'⟨rfl,rfl⟩;go_wp2;go_ret2;exact⟨rfl,blr⟩
  |true =>
   rw[show As (bts s)=true from G]at c1;rw[show As (bts t)=true from I]at c2;have C1:=qh c1;clear c1;have C2:=qh c2;clear c2;have H1:=qh G;clear G;replace I:=qh I;have Y:mulF s t=limS (val s*val t):=by unfold mulF;rw[H1.o,I.o];rfl
   rw[Y];clear Y;have d1:=λw=>Ee s w (by have:=BI H1.o;omega) (Bc H1.o).2.2.2;replace d1:=qh d1;have d2:=λw=>Ee t w (by have:=BI I.o;omega) (Bc I.o).2.2.2;replace d2:=qh d2;have o1:=Cr (Bc H1.o).2.2.2;have o2:=Cr (Bc I.o).2.2.2;have e2:=(BI H1.o).2;have e4:=(BI I.o).2;have n1:=Ce<|bts s;have n2:=Ce<|bts t;rw[Aq]at n1 n2;obtain⟨j,U⟩:=exq<|digL (bts s);obtain⟨g,W⟩:=exq<|digL (bts t);rw[<-U]at o1 n1;rw[<-W]at o2 n2;have g2:j.length<=1000:=by omega
   have g3:g.length<=1000:=by omega
   replace o1:=qh o1;replace o2:=qh o2;replace U:=qh U;replace W:=qh W;clear e2 e4 n1 n2
   go_enter func175,ntmps175
   go_wp2_with fail
   refine(C1.o _).mono ?_;rintro e w'⟨rfl,rfl⟩
   go_wp2_with fail
   refine(C2.o _).mono ?_;rintro e w'⟨rfl,rfl⟩
   go_wp2_with fail
   refine(d1.o w).mono ?_;rintro e w1⟨v1,rfl,O,S⟩;rw[<-U.o]at O;obtain⟨ax,cx,rfl⟩:=O.shape;replace O:=qh O;replace S:=qh S;have e6:=S.o.size
   go_wp2_with fail
   refine(d2.o w1).mono ?_;rintro e R⟨v2,rfl,P,a4⟩;rw[<-W.o]at P;obtain⟨ay,cy,rfl⟩:=P.shape;replace P:=qh P;have H:=S.o.trans<|a4.mono e6;have b2:=O.o.sl.below a4 nlr;replace H:=qh H;clear a4;have h0:=H.o.size;replace b2:=qh b2;have b3:=P.o.sl;replace b3:=qh b3;obtain⟨i0,e7,e8,e9,f0⟩:=info_parts Hr;obtain⟨wm,d3,d,a8⟩:=run_make_full R w.heap.size 26 3 i0 (.int .i64 0) 1 underlying26 e7 e8 e9 .i64 .i64 (j.length+g.length+1) (by rw[f0];omega) (by unfold maxLen;omega) (by omega);rw[show ((j.length+g.length+1:Nat):Int)=(j.length:Int)+(g.length:Int)+1 by omega]at d3;have K:Below R.heap.size R wm:=blr.grown a8 nlr (by simp);have a6:Below w.heap.size w wm:=H.o.trans<|blr.grown a8 (by omega) (by simp);have a1:Own wm w.heap.size 3 .i64 (.slice (some (Ad R.heap.size 0)) (j.length+g.length+1) (j.length+g.length+1)) (List.replicate (j.length+g.length+1) 0):=by
    unfold Own;rw[Lq,List.length_replicate];have:=d;rw[Nat.mul_one,show (Value.int .i64 0).cells=#[Value.int .i64 0] from rfl,toList_madeCells_one]at this;exact this
   replace a6:=qh a6;replace K:=qh K;replace a1:=qh a1;clear d a8;obtain⟨f7,f8,bx,ox,d4,a2,f1,b9,T,o⟩:=b2.o.open;rw[Value.slice.injEq]at d4;obtain⟨rfl,_,rfl⟩:=d4;unfold maxLen at b9;replace o:=qh o;replace a2:=qh a2;have d7:=qh T;clear T
   go_wp2_with fail
   clear d3
   go_loopw [9] (λi wr=>∃(k:Nat) (L:List Nat),k<=j.length/\i=.int .i64 (k:Int)/\MulOR j g L k/\Own wr w.heap.size 3 .i64 (.slice (some (Ad R.heap.size 0)) (j.length+g.length+1) (j.length+g.length+1)) L/\Below w.heap.size w wr/\Below R.heap.size R wr) (λi _=>j.length-(intOf i).toNat)
   case atStart=>exact⟨0,_,Nat.zero_le _,rfl,MulOR.start j g,a1.o,a6.o,K.o⟩
   obtain⟨i,L,g0,rfl,A,d,N,u⟩:=hrel;have b6:=qh A;clear A;have HO:=qh d;clear d;have Z:=qh N;clear N;have b5:=qh u;clear u;obtain⟨wo,rfl⟩:∃wo:World,wo=wr:=⟨_,rfl⟩;by_cases b0:i<j.length
   ·obtain rfl:=a2.o (by omega);have T:=d7.o (by omega)
    go_wp2_with fail
    go_loopw [10,11] (λc q wr=>∃(k C:Nat) (L:List Nat),k<=g.length+1/\q=.int .i64 (k:Int)/\c=.int .i64 (C:Int)/\MulIR j g L i k C/\Own wr w.heap.size 3 .i64 (.slice (some (Ad R.heap.size 0)) (j.length+g.length+1) (j.length+g.length+1)) L/\Below w.heap.size w wr/\Below R.heap.size R wr) (λ_ q _=>g.length+1-(intOf q).toNat)
    case atStart=>exact⟨0,0,L,Nat.zero_le _,rfl,rfl,b6.o.inner,HO.o,Z.o,b5.o⟩
    obtain⟨k,C,L',g1,rfl,rfl,D,d,N,u⟩:=hrel;replace D:=qh D;have J:=qh d;clear d;have X:=qh N;clear N;have m:=qh u;clear u;by_cases f5:k<=g.length
    ·have z:=D.o.len;have cl:=J.o.cell z (i+k) (by omega);have fl:=J.o.free z (i+k);replace z:=qh z;have c1:=(m.o.cell (p:=(Ad bx (ox+i))) T).trans (o.o i b0);obtain⟨x,hx⟩:=exq<|nth j i;obtain⟨y,hy⟩:=exq<|nth g k;obtain⟨l,hl⟩:=exq<|nth L' (i+k);rw[<-hl]at cl;rw[<-hx]at c1;have E:=D.o.step o1.o.1 o2.o.1 b0 (by omega) hl hx hy;replace E:=qh E;have e3:(x:Int)<=9:=by have:=o1.o.1 i;rw[<-hx]at this;omega
     have e5:(y:Int)<=9:=by have:=o2.o.1 k;rw[<-hy]at this;omega
     have d9:(l:Int)<=9:=by have:=D.o.dig<|i+k;rw[<-hl]at this;omega
     have d8:(C:Int)<=9:=by have:=D.o.carry;omega
     have B:((x:Int)*(y:Int))=((x*y:Nat):Int):=by simp
     have e0:x*y<=9*9:=Nat.mul_le_mul (by omega) (by omega);have g5:(x:Int)*(y:Int)<=81:=by rw[B];omega
     have g4:0<=(x:Int)*(y:Int):=by rw[B];omega
     have a7:(((l:Int)+(x:Int)*(y:Int)+(C:Int)) % 10)=(((l+x*y+C) % 10:Nat):Int):=by rw[B];omega
     have b8:(((l:Int)+(x:Int)*(y:Int)+(C:Int)) / 10)=(((l+x*y+C) / 10:Nat):Int):=by rw[B];omega
     replace a7:=qh a7;have b1:wrap64 (((l:Int)+(x:Int)*(y:Int)+(C:Int)).tdiv 10)=(((l+x*y+C) / 10:Nat):Int):=by
      rw[Int.tdiv_eq_ediv_of_nonneg (by omega),b8,<-IntWalk.i64_left,IntKind.wrap_i64];omega
     replace b1:=qh b1;clear b8 B e0;replace hx:=qh hx;replace hy:=qh hy;replace hl:=qh hl;have b4:=b3.o.below m.o nlr;replace b4:=qh b4;have d5:(i:Int)<=1000:=by omega
     have d6:(k:Int)<=1000:=by omega
     have g6:IntKind.i64.wrap ((i:Int)+(k:Int))=(i:Int)+(k:Int):=by rw[IntKind.wrap_i64];omega
     have g7:IntKind.i64.wrap ((x:Int)*(y:Int))=(x:Int)*(y:Int):=by rw[IntKind.wrap_i64];omega
     have g8:IntKind.i64.wrap ((l:Int)+(x:Int)*(y:Int))=(l:Int)+(x:Int)*(y:Int):=by rw[IntKind.wrap_i64];omega
     have g9:IntKind.i64.wrap ((l:Int)+(x:Int)*(y:Int)+(C:Int))=(l:Int)+(x:Int)*(y:Int)+(C:Int):=by rw[IntKind.wrap_i64];omega
     clear e3 e5 d9 d8;have f2:0<=(i:Int)+(k:Int):=by omega
     have f3:(i:Int)+(k:Int)<(j.length:Int)+(g.length:Int)+1:=by omega
     have f4:((i:Int)+(k:Int)).toNat=i+k:=by omega
     go_wp2_with fail
     go_quiet ((go_at_call 205;exact Calls.quiet_of_same ((Ez _ g k _ (b4.o.below (below_drewN (Below.refl _ wr) _) nlr) (by omega)).mono λe w' h=>⟨by rw[h.1,<-hy.o],h.2.symm⟩)))
     go_wp2;go_roundw
     case rel =>
      have ho:=(J.o.kept (below_drewN (Below.refl _ wr) nq) nlr).set z.o (i+k) ((l+x*y+C) % 10);exact⟨k+1,(l+x*y+C) / 10,L'.set (i+k) ((l+x*y+C) % 10),by omega,by go_num,by rw[b1.o],E.o,by rw[a7.o];exact ho,(below_drewN X.o nq).setCell J.o.base.1 _,(below_drewN m.o nq).setCell nlr _⟩
     simp[intOf];omega
    have a9:k=g.length+1:=by omega
    replace a9:=qh a9;have f9:g.length<k:=by omega
    go_wp2;go_roundw
    case rel =>
     have G:=D.o;rw[a9.o]at G;exact⟨i+1,L',by omega,by go_num,G.done o1.o.1 o2.o.1 b0,J.o,X.o,m.o⟩
    simp[intOf];omega
   have d0:i=j.length:=by omega
   have A:=b6.o;rw[d0]at A;clear d0;have Q:=A.done;rw[o1.o.2,o2.o.2]at Q;have F:dval L=val s*val t:=Q;clear Q;replace F:=qh F;have e1:=Z.o.size;have q3:=Iy (.slice (some (Ad R.heap.size 0)) (j.length+g.length+1) (j.length+g.length+1)) L wo (by have:=HO.o.sl;exact this) A.dig (by rw[A.len];omega);rw[F.o]at q3;replace q3:=qh q3;clear A
   go_wp2_with fail
   refine q3.o.mono ?_;rintro e w4⟨rfl,b7⟩;have a5:=Z.o.trans<|b7.mono e1;replace a5:=qh a5;clear b7
   go_wp2_with fail
   refine(OU (val s*val t) w4).mono ?_;rintro e w5⟨rfl,rfl⟩;go_wp2;go_ret2;exact⟨rfl,a5.o⟩
variable{d j:Nat}
structure DivI(l:List UInt8)(n:Nat)(qb:List UInt8)(rn i:Nat):Prop where
 len:qb.length=i
 dig:dgts qb=true
 lt:rn<n
 val:num qb*n+rn=num (l.take i)
theorem DivI.start(l:List UInt8)(h:n≠0):DivI l n [] 0 0:=⟨rfl,rfl,by omega,by simp[num]⟩
def SU(h:j<10):dgt (byteOf j)=true:=by simp only[dgt,byteOf_toNat h];simp;omega
def DivI.step{l:List UInt8}{g:List UInt8}{i:Nat}{c:UInt8}(h:DivI l n g k i)(p:l.take (i+1)=l.take i++[c])(o:m<n)(d:j<10)(s:m+j*n=10*k+(c.toNat-48)):
  DivI l n (g++[byteOf j]) m (i+1):=by
 refine⟨by rw[List.length_append,h.len];rfl,by rw[DW,h.dig,SU d];rfl,o,?_⟩;rw[Dr,p,Dr,<-h.val,byteOf_toNat d,show 48+j-48=j by omega,Nat.add_mul,Nat.mul_add,Nat.mul_assoc];omega
def DivI.j_lt{c:Nat}(i:c<n)(hd:d<10)(g:m+j*n=10*c+d):j<10:=by
 rcases Nat.lt_or_ge j 10 with h|h
 ·exact h
 have:10*n<=j*n:=Nat.mul_le_mul_right _ h;omega
def TL(s:ByteArray)(i:Nat)(h:i<s.size):s.extract i (i+1)=str [s[i]]:=Do (by
 rw[AL];simp only[bts,ByteArray.data_extract,Array.toList_extract,List.extract_eq_take_drop];rw[show i+1-i=1 by omega,List.drop_eq_getElem_cons (by rw[show s.data.toList.length=s.size from Aq s];exact h),List.take_succ_cons,List.take_zero];rfl)
def Ww{c:UInt8}(h:dgt c=true):str [c]=str (dec (10*0+(c.toNat-48))):=by
 simp only[dgt,Bool.and_eq_true,decide_eq_true_eq]at h;rw[By (by omega),IR (c:=c) (by omega)]
theorem Wx{c:UInt8}(h:dgt c=true)(g:d≠0):str (dec d)++str [c]=str (dec (10*d+(c.toNat-48))):=by
 simp only[dgt,Bool.and_eq_true,decide_eq_true_eq]at h;rw[Et (n:=10*d+(c.toNat-48)) (by omega),show (10*d+(c.toNat-48)) / 10=d by omega,IR (c:=c) (by omega)];exact Do (by simp[bts,str])
def SL(hn:(dec n).length<=k)(c:m<n)(hd:d<10):(dec (10*m+d)).length<=k+1:=by
 have:=(BK.1 hn).1;exact BK.2 ⟨by rw[Nat.pow_succ];omega,by omega⟩
def Jq(h:m<=n)(hn:(dec n).length<=k):(dec m).length<=k:=by
 have:=BK.1 hn;exact BK.2 ⟨by omega,this.2⟩
def SO(h:n<=m):(dec n).length<=(dec m).length:=Jq h nlr
def strN(v:Value):Nat:=match v with | .string s=>val s|_=>0
theorem PK(n:Nat):strN (.string (str (dec n)))=n:=AD n
structure Strip(l:List UInt8)(k:Nat):Prop where
 lt:k+1<=l.length
 val:num (l.drop k)=num l
def Strip.step{l:List UInt8}(h:Strip l k)(g:k+1<l.length)(d:l[k].toNat=48):Strip l (k+1):=by
 refine⟨by omega,?_⟩;rw[<-h.val,List.drop_eq_getElem_cons (i:=k) (by omega)];generalize l.drop (k+1)=x;show num x=List.foldl (λn c=>10*n+(c.toNat-48)) (10*0+(l[k].toNat-48)) x;rw[d];rfl
def PL{l:List UInt8}(h:Strip l k)(hd:dgts l=true)(j:l.length<=1000)(g:k+1=l.length\/l[k]'(by have:=h.lt;omega)≠48):l.drop k=dec (num l):=by
 have c:=h.lt;rw[<-h.val];refine(BV (IS (by rw[List.length_drop];omega) (by rw[List.length_drop];omega) ?_ ?_)).symm
 ·rcases g with h|h
  ·left;rw[List.length_drop];omega
  right;rw[List.drop_eq_getElem_cons (i:=k) (by omega),List.headD_cons];exact h
 unfold dgts at *;rw[List.all_eq_true]at *;intro x d;exact hd x (List.mem_of_mem_drop d)
set_option maxRecDepth 100000 in
theorem OK(s t:ByteArray)(w:World)(hs:s.size<=maxLen)(ht:t.size<=maxLen):
  Calls prog 177 #[.string s,.string t] w (TripEnd (divF s t) w):=by
 have c1:=λw=>Cm s w hs;have c2:=λw=>Cm t w ht;clear hs ht;cases G:vld s with
 |false =>
  have hr:divF s t=(str [],str [],1):=by unfold divF;rw[G];rfl
  rw[hr];unfold vld at G;rw[G]at c1;clear hr G c2;have C1:=qh c1;clear c1
  go_enter func177,ntmps177
  go_wp2_with fail
  refine(C1.o _).mono ?_;rintro e w'⟨rfl,rfl⟩;go_wp2
  go_ret3
  exact⟨rfl,blr⟩
 |true =>
  cases H:vld t with
  |false =>
   have hr:divF s t=(str [],str [],1):=by unfold divF;rw[G,H];rfl
   rw[hr];unfold vld at G H;rw[G]at c1;rw[H]at c2;clear hr G H;have C1:=qh c1;clear c1;have C2:=qh c2;clear c2
   go_enter func177,ntmps177
   go_wp2_with fail
   refine(C1.o _).mono ?_;rintro e w'⟨rfl,rfl⟩
   go_wp2_with fail
   refine(C2.o _).mono ?_;rintro e w'⟨rfl,rfl⟩;go_wp2
   go_ret3
   exact⟨rfl,blr⟩
  |true =>
   rw[show As (bts s)=true from G]at c1;rw[show As (bts t)=true from H]at c2;have C1:=qh c1;clear c1;have C2:=qh c2;clear c2;replace G:=qh G;replace H:=qh H;have d2:=λw=>Ee t w (by have:=BI H.o;omega) (Bc H.o).2.2.2;replace d2:=qh d2;have e2:=(EC H.o);replace e2:=qh e2;have d4:(dec (val t)).length<=1000:=FO H.o;replace d4:=qh d4;have i4:(s.size:Int)<=1000:=by have:=(BI G.o).2;omega
   have l7:(1:Int)<=(s.size:Int):=by have:=(BI G.o).1;omega
   by_cases hz:val t=0
   ·have hr:divF s t=(str [],str [],4):=by unfold divF;rw[G.o,H.o,ifp hz];rfl
    rw[hr];clear hr;have i6:=Na H.o hz;clear hz
    go_enter func177,ntmps177
    go_wp2_with fail
    refine(C1.o _).mono ?_;rintro e w'⟨rfl,rfl⟩
    go_wp2_with fail
    refine(C2.o _).mono ?_;rintro e w'⟨rfl,rfl⟩
    go_wp2_with fail
    go_ret3
    exact⟨rfl,blr⟩
   have hr:divF s t=(str (dec (val s / val t)),str (dec (val s % val t)),0):=by unfold divF;rw[G.o,H.o,ifn hz];rfl
   rw[hr];clear hr;have i6:(t.toList==[48])=false:=beq_eq_false_iff_ne.2<|Ic hz;replace hz:=qh hz;obtain⟨i0,hi,k7,i7,i8⟩:=info_parts MZ
   go_enter func177,ntmps177
   go_wp2_with fail
   refine(C1.o _).mono ?_;rintro e w'⟨rfl,rfl⟩
   go_wp2_with fail
   refine(C2.o _).mono ?_;rintro e w'⟨rfl,rfl⟩
   go_wp2_with fail
   clear i6
   go_loopw [7,8,9] (λv r i wr=>∃(k rn:Nat) (z:List UInt8),k<=s.size/\i=.int .i64 (k:Int)/\r=.string (str (dec rn))/\DivI (bts s) (val t) z rn k/\Own wr w.heap.size 5 .u8 v (z.map (·.toNat))/\Below w.heap.size w wr) (λ_ _ i _=>s.size-(intOf i).toNat)
   case atStart=>exact⟨0,0,[],Nat.zero_le _,rfl,by rw[By (by omega)];rfl,DivI.start _ hz.o,Own.nil _ _ _ _,blr⟩
   obtain⟨k,rn,z,hk,rfl,rfl,h,l,hb⟩:=hrel;have o:(z.map (·.toNat)).length=k:=by rw[List.length_map];exact h.len
   replace h:=qh h;obtain⟨ad,d0,rfl⟩:=l.shape;rw[o]at l ⊢;replace l:=qh l;have HB:=qh hb;clear hb;have m5:=HB.o.size;replace o:=qh o;obtain⟨wo,rfl⟩:∃wo:World,wo=wr:=⟨_,rfl⟩;by_cases d6:k<s.size
   ·have J:dgt s[k]=true:=by
     have:=Jv (Bc G.o).2.2.2 k (by rw[Aq];exact d6);rw[Jh s k d6]at this;simp only[dgt];simp;exact this
    have Z:=TL s k d6;have e1:=EH s k d6;obtain⟨c,Y⟩:=exq<|s[k];rw[<-Y]at J Z e1;replace J:=qh J;replace Z:=qh Z;replace e1:=qh e1;clear Y;obtain⟨m0,K⟩:∃m0,m0=10*rn+(c.toNat-48):=⟨_,rfl⟩;have g2:(dec m0).length<=1001:=by
     have:=J.o;simp only[dgt,Bool.and_eq_true,decide_eq_true_eq]at this;rw[K];exact SL d4.o h.o.lt (by omega)
    replace g2:=qh g2;replace K:=qh K;by_cases a7:rn=0;have i3:(str (dec rn)).toList=[48]:=by rw[a7,Lib.toList_data,By (by omega)];rfl
    have F:s.extract k (k+1)=str (dec m0):=by rw[Z.o,K.o,a7];exact Ww J.o
    have e5:=qh F;clear F a7
    rotate_left
    have i3:((str (dec rn)).toList==[48])=false:=beq_eq_false_iff_ne.2 (Ic (by rw[AD];exact a7));have F:str (dec rn)++s.extract k (k+1)=str (dec m0):=by rw[Z.o,K.o];exact Wx J.o a7
    have e5:=qh F;clear F a7;have m4:((str (dec rn)).size:Int)<=8388608:=by rw[AH];have:=Jq (Nat.le_of_lt h.o.lt) d4.o;omega
    have m3:((s.extract k (k+1)).size:Int)<=8388608:=by rw[Z.o,AH];simp
    all_goals
     go_wp2_with fail
     rw[e5.o];clear i3
     go_loopw [8,10] (λr d wq=>∃(m j:Nat),r=.string (str (dec m))/\d=.int .u8 (48+(j:Int))/\m+j*val t=m0/\Below w.heap.size w wq/\Below wo.heap.size wo wq) (λr _ _=>strN r)
     case atStart=>exact⟨m0,0,rfl,by go_num,by omega,HB.o,blr⟩
     obtain⟨m,j,rfl,rfl,a2,b0,C⟩:=hrel;replace a2:=qh a2;replace b0:=qh b0;replace C:=qh C;have f5:=b0.o.size;have b8:=C.o.size;have j8:(dec m).length<=1001:=Jq (by have:=a2.o;omega) g2.o;have h7:c.toNat-48<10:=by have:=J.o;simp only[dgt,Bool.and_eq_true,decide_eq_true_eq]at this;omega
     have W:=DivI.j_lt h.o.lt h7 (a2.o.trans K.o);clear h7;have l8:(j:Int)<=9:=by omega
     replace W:=qh W;have Y:=KA m (val t) wr (by omega);rw[e2.o]at Y;unfold CmpEnd at Y;by_cases u:m<val t
     ·rw[Cq u]at Y;have HC:=qh Y;clear Y;have g8:=qh u;clear u
      go_wp2_with fail
      refine HC.o.mono ?_;rintro e w3⟨rfl,I⟩;have A:=b0.o.trans<|I.mono f5;have B:=C.o.trans<|I.mono b8;have e0:=l.o.kept B nlr;have b6:w3.ownsRow w.heap.size 5 1 (.slice ad k d0) k (vals .u8 (z.map (·.toNat))):=by have:=e0.raw;rwa [o.o]at this
      replace b6:=qh b6;replace e0:=qh e0;have a9:=qh A;clear A B I;have i5:=a9.o.size;have g0:(48+(j:Int))=((48+j:Nat):Int):=by omega
      replace g0:=qh g0;have g3:(z++[byteOf j]).map (·.toNat)=z.map (·.toNat)++[48+j]:=by rw[List.map_append];simp[byteOf_toNat W.o]
      replace g3:=qh g3
      go_wp2_with (at_builtin;refine wpList_append_own _ rfl (.tmp 54) (.tmp 56) 217 rfl w.heap.size 5 i0 (.int .u8 0) 1 1 underlying217 hi k7 i7 i8 rfl (by decide) _ _ _ rfl (World.ownsRow.alloc b6.o _) (Ad w3.heap.size 0) 1 1 [.int .u8 (48+(j:Int))] rfl rfl (cell_one_new _ _ _) (one_cell _ _) (by unfold maxLen;omega) (by omega) (by simp;omega) ?_;intro v' w1 L U _)
      rw[g0.o]at L;obtain⟨ho,hb⟩:=e0.o.appended a9.o i5 (by rw[o.o];exact L) U;clear L U;rw[<-g3.o]at ho;replace ho:=qh ho;have j0:=qh hb;clear hb
      try go_wp2
      go_roundw
      case rel=>exact⟨k+1,m,z++[byteOf j],by omega,by go_num,rfl,h.o.step e1.o g8.o W.o (a2.o.trans K.o),ho.o,j0.o⟩
      simp[intOf];omega
     have j4:(0:Int)<=cmpN m (val t):=by unfold cmpN;rw[ifn u];split<;>decide
     obtain⟨cc,h6⟩:=exq<|cmpN m (val t);rw[<-h6]at j4 Y;clear h6;have HC:=qh Y;clear Y;have a1:val t<=m:=Nat.le_of_not_lt u;replace a1:=qh a1;clear u;have b1:(digL (bts t)).length<=(digL (dec m)).length:=by
      rw[Ce,Ce,Aq,<-e2.o,AH];exact SO a1.o
     have D:dval (digL (dec m))=m:=by rw[(Cr (CX m)).2,CH]
     have E:dval (digL (bts t))=val t:=(Cr (Bc H.o).2.2.2).2;have R:=(Cr (CX m)).1;have S:=(Cr (Bc H.o).2.2.2).1;have j9:(digL (dec m)).length<=1001:=by rw[Ce];exact j8
     have D1:=qh<|Ee (str (dec m));obtain⟨xs,e3⟩:=exq<|digL (dec m);obtain⟨ys,e4⟩:=exq<|digL (bts t);rw[<-e3]at b1 D R j9;rw[<-e4]at b1 E S;replace e3:=qh e3;replace e4:=qh e4;replace b1:=qh b1;replace D:=qh D;replace E:=qh E;replace R:=qh R;replace S:=qh S
     go_wp2_with fail
     refine HC.o.mono ?_;rintro e w3⟨rfl,I⟩;have A:=b0.o.trans<|I.mono f5;have B:=C.o.trans<|I.mono b8;have a9:=qh A;have h0:=qh B;clear A B I;have k9:=a9.o.size;have k0:=h0.o.size
     go_wp2_with fail
     have q4:=D1.o w3 (by rw[AH];omega) (by rw[AL];exact CX m);rw[AL,<-e3.o]at q4;refine q4.mono ?_;clear q4;rintro e w4⟨v4,rfl,d7,f7⟩;obtain⟨a4,c4,rfl⟩:=d7.shape;replace d7:=qh d7;have e6:=a9.o.trans<|f7.mono k9;have e7:=h0.o.trans<|f7.mono k0;have g5:=qh e6;have h3:=qh e7;clear e6 e7 f7;have l0:=g5.o.size;have k4:=h3.o.size
     go_wp2_with fail
     have q5:=d2.o w4;rw[<-e4.o]at q5;refine q5.mono ?_;clear q5;rintro e w5⟨v5,rfl,d8,d3⟩;obtain⟨a5,c5,rfl⟩:=d8.shape;replace d8:=qh d8;have g4:=d7.o.sl.below d3 nlr;replace g4:=qh g4;have e8:=g5.o.trans<|d3.mono l0;have e9:=h3.o.trans<|d3.mono k4;have g6:=qh e8;have h4:=qh e9;clear e8 e9 d3;have l1:=g6.o.size;have k5:=h4.o.size
     go_wp2_with fail
     refine(OT _ _ xs ys w5 g4.o d8.o.sl R.o S.o b1.o (by rw[D.o,E.o];exact a1.o) (by omega)).mono ?_;rintro e w6⟨ls,X,b2,i2,v6,rfl,d9,f8⟩;obtain⟨a6,c6,rfl⟩:=d9.shape;rw[D.o,E.o]at X;replace X:=qh X;replace b2:=qh b2;have l6:ls.length<=1001:=by omega
     clear i2;replace d9:=qh d9;have f0:=g6.o.trans<|f8.mono l1;have f1:=h4.o.trans<|f8.mono k5;have g7:=qh f0;have h5:=qh f1;clear f0 f1 f8;have l2:=g7.o.size;have k6:=h5.o.size
     go_wp2_with fail
     have q7:=Iy _ ls w6 d9.o.sl b2.o (by omega);rw[X.o]at q7;refine q7.mono ?_;clear q7;rintro e w7⟨rfl,f9⟩;have f2:=g7.o.trans<|f9.mono l2;have f3:=h5.o.trans<|f9.mono k6;have j1:=qh f2;have j2:=qh f3;clear f2 f3 f9;go_wp2;go_roundw
     case rel=>exact⟨m-val t,j+1,rfl,by go_num,by rw[Nat.add_mul,Nat.one_mul];have:=a2.o;have:=a1.o;omega,j1.o,j2.o⟩
     rw[PK,PK];have:=a1.o;have:=hz.o;omega
   have h9:k=s.size:=by omega
   obtain⟨g,l3,hv,_,_,j7,_⟩:=l.o.some (by rw[o.o];omega);rw[o.o]at hv j7;simp only[Value.slice.injEq,true_and]at hv;obtain⟨rfl,rfl⟩:=hv;have p:=h.o.len;replace p:=qh p;have b9:num z*val t+rn=val s:=by
    have:=h.o.val;rw[h9,List.take_of_length_le (by rw[Aq];omega)]at this;exact this
   have b7:rn=val s % val t:=by
    rw[<-b9,Nat.mul_comm,Nat.mul_add_mod,Nat.mod_eq_of_lt h.o.lt]
   have b5:num z=val s / val t:=by
    rw[<-b9,Nat.mul_comm,Nat.mul_add_div (Nat.pos_of_ne_zero hz.o),Nat.div_eq_of_lt h.o.lt,Nat.add_zero]
   replace b7:=qh b7;replace b5:=qh b5;clear b9;have m2:1<=k:=by omega
   have d5:k<=1000:=by omega
   have O:=qh d5;clear h9
   go_wp2_with fail
   go_loop [11] (λi=>∃j:Nat,i=.int .i64 (j:Int)/\Strip z j) (λi=>k-(intOf i).toNat)
   case atStart=>exact⟨0,rfl,⟨by rw[p.o];omega,by rw[List.drop_zero]⟩⟩
   obtain⟨j,rfl,a8⟩:=hrel;have g1:=a8.lt;rw[p.o]at g1;have l5:j<k:=by omega
   have l9:j<d0:=by omega
   have l4:¬d0=j:=by omega
   replace a8:=qh a8;have j3:=l.o.cell o.o j (by omega);have b4:nth (z.map (·.toNat)) j=(z[j]'(by rw[p.o];omega)).toNat:=by rw[Db _ _ (by rw[o.o];omega),List.getElem_map]
   obtain⟨d,hd⟩:=exq<|nth (z.map (·.toNat)) j;rw[<-hd]at j3 b4;replace b4:=qh b4;clear hd;by_cases b3:j+1<k;have j6:decide ((j:Int)<(k:Int)-1)=true:=decide_eq_true (by omega);have g9:=qh b3;clear b3 g1;by_cases d1:d=48
   ·have hg:((d:Int)==48)=true:=by rw[beq_iff_eq];omega
    have i9:=qh d1;clear d1;have N:=a8.o.step (by rw[p.o];exact g9.o) (by rw[<-b4.o];exact i9.o);replace N:=qh N;go_wp2
    go_round
    case rel=>exact⟨j+1,by go_num,N.o⟩
    simp[intOf];omega
   have hg:((d:Int)==48)=false:=by rw[beq_eq_false_iff_ne];omega
   have T:=PL a8.o h.o.dig (by rw[p.o];exact O.o) (.inr (by intro e;apply d1;rw[b4.o,e];rfl));clear d1
   rotate_left
   have j6:decide ((j:Int)<(k:Int)-1)=false:=decide_eq_false (by omega);have T:=PL a8.o h.o.dig (by rw[p.o];exact O.o) (.inl (by rw[p.o];omega));clear b3 g1
   all_goals
    rw[b5.o]at T;have Q:∀(i:Nat) (hi:i<(z.drop j).length),wo.cell? (((Ad g j):Addr).add i)=some (.int .u8 (((z.drop j)[i].toNat:Nat):Int)):=λi hi=>by
     have h8:j+i<k:=by rw[List.length_drop,p.o]at hi;omega
     have Y:=l.o.cell o.o (j+i) h8;have e:((Ad g j):Addr).add i=(Ad g (j+i)):=by unfold Addr.add;split<;>simp_all
     rw[e,Y,Db _ _ (by rw[o.o];exact h8),List.getElem_map,List.getElem_drop]
    have j5:=run_convert_bytes_back (P:=prog) wo 217 9 5 (Ad g j) (d0-j) (z.drop j) underlying217 underlying5 underlying9 Q;have f4:(⟨(z.drop j).toArray⟩:ByteArray)=str (dec (val s / val t)):=by rw[T];rfl
    rw[f4,List.length_drop,p.o]at j5;clear Q f4 T
    go_wp2_with fail
    all_goals (rw[<-b7.o];go_ret3;exact⟨rfl,HB.o⟩)
set_option maxRecDepth 100000 in
theorem WL(s t:ByteArray)(w:World)(F:s.size<=maxLen)(G:t.size<=maxLen):
  Calls prog 171 #[.string s,.string t] w (PairEnd (gcdF s t) w):=by
 have c1:=λw=>Cm s w F;have c2:=λw=>Cm t w G;clear F G;cases c:vld s with
 |false =>
  have l:gcdF s t=(str [],1):=by unfold gcdF;rw[c];rfl
  rw[l];unfold vld at c;rw[c]at c1;clear l c c2;have u:=qh c1;clear c1
  go_enter func171,ntmps171
  go_wp2_with fail
  refine(u.o _).mono ?_;rintro e B⟨rfl,rfl⟩;go_wp2;go_ret2;exact⟨rfl,blr⟩
 |true =>
  cases j:vld t with
  |false =>
   have l:gcdF s t=(str [],1):=by unfold gcdF;rw[c,j];rfl
   rw[l];unfold vld at c j;rw[c]at c1;rw[j]at c2;clear l c j;have u:=qh c1;clear c1;have C:=qh c2;clear c2
   go_enter func171,ntmps171
   go_wp2_with fail
   refine(u.o _).mono ?_;rintro e B⟨rfl,rfl⟩
   go_wp2_with fail
   refine(C.o _).mono ?_;rintro e B⟨rfl,rfl⟩;go_wp2;go_ret2;exact⟨rfl,blr⟩
  |true =>
   rw[show As (bts s)=true from c]at c1;rw[show As (bts t)=true from j]at c2;have u:=qh c1;clear c1;have C:=qh c2;clear c2;replace c:=qh c;replace j:=qh j;have l:gcdF s t=(str (dec (Nat.gcd (val s) (val t))),0):=by unfold gcdF;rw[c.o,j.o];rfl
   rw[l];clear l
   go_enter func171,ntmps171
   go_wp2_with fail
   refine(u.o _).mono ?_;rintro e B⟨rfl,rfl⟩
   go_wp2_with fail
   refine(C.o _).mono ?_;rintro e B⟨rfl,rfl⟩
   go_wp2_with fail
   go_loopg [0,1] (val t) (λg I J wr=>∃p:Nat,I=.string (str (dec p))/\J=.string (str (dec g))/\Nat.gcd p g=Nat.gcd (val s) (val t)/\fits p/\fits g/\Below w.heap.size w wr)
   case atStart=>exact⟨val s,by rw[EC c.o],by rw[EC j.o],rfl,FO c.o,FO j.o,blr⟩
   obtain⟨p,rfl,rfl,A,h,i,hb⟩:=hrel;replace A:=qh A;replace h:=qh h;replace i:=qh i;replace hb:=qh hb;have E:=hb.o.size;by_cases k:gk=0
   ·have D:((str (dec gk)).toList==[48])=true:=by rw[beq_iff_eq,k,Lib.toList_data,By (by omega)];rfl
    have H:((str (dec gk)).toList != [48])=false:=by unfold bne;rw[D];rfl
    have K:(str (dec gk)).toList=[48]:=by rw[k,Lib.toList_data,By (by omega)];rfl
    have o:p=Nat.gcd (val s) (val t):=by rw[<-A.o,k,Nat.gcd_zero_right]
    replace o:=qh o;clear k;go_wp2;go_ret2;exact⟨Iw (by rw[o.o]) rfl,hb.o⟩
   have D:((str (dec gk)).toList==[48])=false:=beq_eq_false_iff_ne.2 (Ic (by rw[AD];exact k));have H:((str (dec gk)).toList != [48])=true:=by unfold bne;rw[D];rfl
   have d:=OK (str (dec p)) (str (dec gk)) wr (AS h.o) (AS i.o);unfold TripEnd at d;rw[Jx (AU h.o) (AU i.o) (by rw[AD];exact k),AD,AD]at d;replace d:=qh d;replace k:=qh k
   go_wp2_with fail
   refine d.o.mono ?_;rintro e L⟨rfl,z⟩;have m:=hb.o.trans<|z.mono E;replace m:=qh m;clear z
   go_wp2_with fail
   go_roundg (p % gk)
   case measure=>exact Nat.mod_lt _ (Nat.pos_of_ne_zero k.o)
   case rel=>exact⟨gk,rfl,rfl,by rw[<-A.o,Nat.gcd_comm gk,<-Nat.gcd_rec,Nat.gcd_comm],i.o,Cf h.o (Nat.mod_le _ _),m.o⟩
def Wz(m n:Nat)(w:World)(c:fits m)(hn:fits n)(h:fits (m+n)):
  Calls prog 172 #[.string (str (dec m)),.string (str (dec n))] w (StrZ (str (dec (m+n))) w):=by
 have:=Wy (str (dec m)) (str (dec n)) w (AS c) (AS hn);rw[LG (AU c) (AU hn) (by rw[AD,AD];exact h),AD,AD]at this;exact this
def Ph(m n:Nat)(w:World)(c:fits m)(hn:fits n)(h:n<=m):
  Calls prog 174 #[.string (str (dec m)),.string (str (dec n))] w (StrZ (str (dec (m-n))) w):=by
 have:=Xf (str (dec m)) (str (dec n)) w (AS c) (AS hn);rw[PN (AU c) (AU hn) (by rw[AD,AD];exact h),AD,AD]at this;exact this
def WQ(m n:Nat)(w:World)(c:fits m)(hn:fits n)(h:fits (m*n)):
  Calls prog 175 #[.string (str (dec m)),.string (str (dec n))] w (StrZ (str (dec (m*n))) w):=by
 have:=WP (str (dec m)) (str (dec n)) w (AS c) (AS hn);rw[NL (AU c) (AU hn) (by rw[AD,AD];exact h),AD,AD]at this;exact this
def OR(m n:Nat)(w:World)(c:fits m)(hn:fits n):
  Calls prog 171 #[.string (str (dec m)),.string (str (dec n))] w (StrZ (str (dec (Nat.gcd m n))) w):=by
 have:=WL (str (dec m)) (str (dec n)) w (AS c) (AS hn);rw[MX (AU c) (AU hn),AD,AD]at this;exact this
def OL(m n:Nat)(w:World)(c:fits m)(hn:fits n)(h:n≠0):
  Calls prog 177 #[.string (str (dec m)),.string (str (dec n))] w λe w'=>e=.returned (.tuple #[.string (str (dec (m / n))),.string (str (dec (m % n))),.int .i64 0])/\Below w.heap.size w w':=by
 have:=OK (str (dec m)) (str (dec n)) w (AS c) (AS hn);rw[Jx (AU c) (AU hn) (by rw[AD];exact h),AD,AD]at this;exact this
def OJ(m n:Nat)(w:World)(c:fits m)(hn:fits n):
  Calls prog 173 #[.string (str (dec m)),.string (str (dec n))] w (IntEnd (cmpN m n) w):=by
 have:=WA (str (dec m)) (str (dec n)) w (AS c) (AS hn);unfold cmpF at this;rw[AU c,AU hn,AD,AD]at this;exact this
def DJ(m n:Nat)(w:World)(d:fits m)(hn:fits n)(h:fits (m*n)):
  Calls prog 139 #[.string (str (dec m)),.string (str (dec n))] w (StrE (str (dec (m*n))) w):=by
 have c:=WQ m n w d hn h;replace c:=qh c;clear d hn h
 go_enter func139,ntmps139
 go_wp2_with fail
 refine nxa c.o λi g=>?_;go_wp2;go_ret;exact⟨rfl,g.o⟩
def PH(p q:Bool)(m n:Nat)(w:World)(h:fits (m+n)):
  Calls prog 138 #[.bool p,.string (str (dec m)),.bool q,.string (str (dec n))] w λe w' =>
   e=.returned (.tuple #[.bool (sumF p m q n).1,.string (str (dec (sumF p m q n).2))])/\Below w.heap.size w w':=by
 have j:fits m:=Cf h (by omega);have k:fits n:=Cf h (by omega);by_cases d:p=q
 ·subst d;have l:sumF p m p n=(p,m+n):=by unfold sumF;rw[ifp rfl]
  rw[l];have i:=Wz m n w j k h;have A:=qh i;clear i j k h l;have F:(p==p)=true:=by cases p<;>rfl
  go_enter func138,ntmps138
  go_wp2_with fail
  refine nxa A.o λo D=>?_;go_wp2;go_ret2;exact⟨rfl,D.o⟩
 have hb:(p==q)=false:=by rw[beq_eq_false_iff_ne];exact d
 by_cases c:m<n;have l:sumF p m q n=(q,n-m):=by unfold sumF;rw[ifn d,ifp c]
 rw[l];have i:=OJ m n w j k;rw[Cq c]at i;have hd:=λo=>Ph n m o k j (Nat.le_of_lt c)
 rotate_left
 have l:sumF p m q n=(p,m-n):=by unfold sumF;rw[ifn d,ifn c]
 rw[l];have i:=OJ m n w j k;have B:0<=cmpN m n:=by
  rcases Nat.lt_or_ge n m with C|C
  ·rw[CV C];omega
  rw[DV (by omega)];omega
 generalize cmpN m n=z at i B;have hd:=λo=>Ph m n o j k (by omega)
 all_goals
  have A:=qh i;clear i;have E:=qh hd;clear hd;clear j k h l c d
  go_enter func138,ntmps138
  go_wp2_with fail
  refine A.o.mono ?_;rintro e o⟨rfl,g⟩;replace g:=qh g
  go_wp2_with fail
  refine(E.o o).mono ?_;rintro e G⟨rfl,s⟩;have u:=qh<|g.o.trans (s.mono g.o.size);clear s;go_wp2;go_ret2;exact⟨rfl,u.o⟩
def Px(s:ByteArray)(w:World)(d:s.size<=9223372036854775807):
  Calls prog 170 #[.string s] w λe w'=>e=.returned (.bool (decide (s.size<=400)&&vld s))/\w=w':=by
 have c:=Cm s w (by unfold maxLen;omega);replace c:=qh c;by_cases h:s.size<=400
 ·have g:(s.size:Int)<=400:=by omega
  have e:(decide (s.size<=400)&&vld s)=vld s:=by rw[decide_eq_true h];rfl
  rw[e];clear h e d
  go_enter func170,ntmps170
  go_wp2_with fail
  refine c.o.mono ?_;rintro e i⟨rfl,rfl⟩;go_wp2;go_ret;exact⟨rfl,rfl⟩
 have g:(400:Int)<(s.size:Int):=by omega
 have e:(decide (s.size<=400)&&vld s)=false:=by rw[decide_eq_false h];rfl
 rw[e];clear h e d
 go_enter func170,ntmps170
 go_wp2;go_ret;exact⟨rfl,rfl⟩
def YE(l:List UInt8):∀(i:Nat),i<l.length->(∀j,j<i->l.getD j 0≠47)->l.getD i 0=47->hasS l=true/\(upTo l).length=i:=by
 induction l with
 |nil=>intro i hi;simp at hi
 |cons a l ih =>
  intro i hi k c;cases i with
  |zero=>simp at c;subst c;simp[hasS,upTo]
  |succ i =>
   have g:a≠47:=by have:=k 0 (by omega);simpa using this
   obtain⟨d,o⟩:=ih i (by simpa using hi) (λj h=>by have:=k (j+1) (by omega);simpa using this) (by simpa using c);have m:upTo (a::l)=a::upTo l:=by simp[upTo,g]
   refine⟨?_,by rw[m,List.length_cons,o]⟩;simp[hasS,g]at d ⊢;exact d
def Ub(l:List UInt8)(h:∀j,j<l.length->l.getD j 0≠47):hasS l=false:=by
 simp[hasS];intro c i e;obtain⟨j,g,d⟩:=List.getElem_of_mem i
 apply h j g
 rw[List.getD_eq_getElem?_getD,List.getElem?_eq_getElem g];simp[d,e]
theorem Yy(c:UInt8)(h:c≠47):((c.toNat:Int)==47)=false:=by
 rw[beq_eq_false_iff_ne];intro e;apply h;apply UInt8.toNat_inj.1;show c.toNat=47;omega
def idxF(s:ByteArray):Int:=if hasS (bts s) then ((upTo (bts s)).length:Int) else -1
def Uk(s:ByteArray)(w:World)(B:s.size<=9223372036854775807):
  Calls prog 169 #[.string s,.int .u8 47] w λe w'=>e=.returned (.int .i64 (idxF s))/\Below w.heap.size w w':=by
 have C:(s.size:Int)<=9223372036854775807:=by omega
 clear B
 go_enter func169,ntmps169
 go_wp2
 go_loopw [5] (λi wr=>∃k:Nat,k<=s.size/\i=.int .i64 k/\(∀j,j<k->(bts s).getD j 0≠47)/\wr=w) (λi _=>s.size-(intOf i).toNat)
 case atStart=>exact⟨0,Nat.zero_le _,rfl,λj m=>by omega,rfl⟩
 obtain⟨k,D,rfl,m,rfl⟩:=hrel;have o:=qh m;clear m;by_cases d:k<s.size
 ·by_cases g:s[k]=47
  ·have u:((s[k].toNat:Int)==47)=true:=by rw[g];rfl
   have l:idxF s=k:=by
    obtain⟨z,A⟩:=YE (bts s) k (by rw[Aq];exact d) o.o (by rw[Ep s k d];exact g);unfold idxF;rw[z,A];rfl
   have p:=qh l;clear l g;go_wp2;go_ret;exact⟨BS p.o.symm,blr⟩
  have u:((s[k].toNat:Int)==47)=false:=Yy _ g;have c:∀j,j<k+1->(bts s).getD j 0≠47:=by
   intro j m;by_cases e:j=k
   ·subst e;rw[Ep s j d];exact g
   exact o.o j (by omega)
  replace c:=qh c;clear g;go_wp2;go_roundw
  case rel=>exact⟨k+1,by omega,by go_num,c.o,by trivial⟩
  simp[intOf];omega
 have l:idxF s=-1:=by
  unfold idxF;rw[Ub (bts s) (λj h=>o.o j (by rw[Aq]at h;omega))];rfl
 have p:=qh l;clear l;go_wp2;go_ret;exact⟨BS p.o.symm,blr⟩
def txtM(r:Bool)(x y:ByteArray):ByteArray :=
 let s:=if r then (⟨#[45]⟩:ByteArray)++x else x
 if y=⟨#[49]⟩ then s else (s++(⟨#[47]⟩:ByteArray))++y
theorem Yv(r:Bool)(x y:ByteArray):txtM r x y=txtS r x y:=by
 unfold txtM txtS;by_cases h:y=⟨#[49]⟩
 ·rw[ifp h,ifp h]
 rw[ifn h,ifn h,ByteArray.append_assoc]
theorem UJ(s:Bool)(a b g x y t u:ByteArray)(r:Bool)(w:World)(B:(s=false/\r=false)\/(s=true/\(x.toList==[48])=!r))(hb:(b.toList==[48])=false)
  (D:x.size<=1000) (F:y.size<=1000)
  (c0:∀wx,Calls prog 176 #[.string a] wx λe w'=>e=.returned (.bool true)/\wx=w')
  (o:∀wx,Calls prog 176 #[.string b] wx λe w'=>e=.returned (.bool true)/\wx=w')
  (c1:∀wx,Calls prog 171 #[.string a,.string b] wx (StrZ g wx))
  (c2:∀wx,Calls prog 177 #[.string a,.string g] wx λe w'=>e=.returned (.tuple #[.string x,.string t,.int .i64 0])/\Below wx.heap.size wx w')
  (c3:∀wx,Calls prog 177 #[.string b,.string g] wx λe w'=>e=.returned (.tuple #[.string y,.string u,.int .i64 0])/\Below wx.heap.size wx w') :
  Calls prog 140 #[.bool s,.string a,.string b] w λe w' =>
   e=(if x.size<=400/\y.size<=400 then .returned (.tuple #[.string (txtM r x y),.int .i64 0]) else .returned (.tuple #[.string ⟨#[]⟩,.int .i64 2]))/\Below w.heap.size w w':=by
 replace c0:=qh c0;have C:=qh o;clear o;replace c1:=qh c1;replace c2:=qh c2;replace c3:=qh c3;have k:(x.size<=400/\y.size<=400)\/(x.size<=400/\400<y.size)\/400<x.size:=by omega
 obtain⟨L,c⟩:∃E:Ending,E=(if x.size<=400/\y.size<=400 then .returned (.tuple #[.string (txtM r x y),.int .i64 0]) else .returned (.tuple #[.string ⟨#[]⟩,.int .i64 2])):=⟨_,rfl⟩
 rw[<-c];replace c:=qh c
 go_enter func140,ntmps140
 go_wp2_with fail
 refine(c0.o _).mono ?_;rintro e I⟨rfl,rfl⟩
 go_wp2_with fail
 refine(C.o _).mono ?_;rintro e I⟨rfl,rfl⟩
 go_wp2_with fail
 refine(c1.o _).mono ?_;rintro e I⟨rfl,j⟩;replace j:=qh j
 go_wp2_with fail
 refine(c2.o _).mono ?_;rintro e P⟨rfl,p⟩;have m:=qh<|j.o.trans (p.mono j.o.size);clear p
 go_wp2_with fail
 refine(c3.o _).mono ?_;rintro e Q⟨rfl,z⟩;have d:=qh<|m.o.trans (z.mono m.o.size);clear z;clear hb
 rcases k with⟨l,A⟩|⟨l,A⟩|l
 ·have i:=qh<|show x.size<=400/\y.size<=400 from ⟨l,A⟩;have H:(x.size:Int)<=400:=by omega
  have J:(y.size:Int)<=400:=by omega
  have N:(x.size:Int)<=8388608:=by omega
  have O:(y.size:Int)<=8388608:=by omega
  clear l A D F;by_cases hd:y=⟨#[49]⟩
  ·subst hd
   rcases B with⟨rfl,rfl⟩|⟨rfl,G⟩
   ·go_wp2;go_ret2;exact⟨by rw[c.o,ifp i.o];rfl,d.o⟩
   cases r<;>simp only[Bool.not_true,Bool.not_false]at G
   ·go_wp2;go_ret2;exact⟨by rw[c.o,ifp i.o];rfl,d.o⟩
   go_wp2;go_ret2;exact⟨by rw[c.o,ifp i.o];rfl,d.o⟩
  have K:(y.toList==[49])=false:=BQ hd;replace hd:=qh hd
  rcases B with⟨rfl,rfl⟩|⟨rfl,G⟩
  ·go_wp2;go_ret2;exact⟨by rw[c.o,ifp i.o];unfold txtM;rw[ifn hd.o];rfl,d.o⟩
  cases r<;>simp only[Bool.not_true,Bool.not_false]at G
  rotate_left
  all_goals
   go_wp2;go_ret2;exact⟨by rw[c.o,ifp i.o];unfold txtM;rw[ifn hd.o];rfl,d.o⟩
 ·have i:=qh (show ¬(x.size<=400/\y.size<=400) from λh=>by omega);have H:(x.size:Int)<=400:=by omega
  have J:(400:Int)<(y.size:Int):=by omega
  clear l A D F B;go_wp2;go_ret2;exact⟨by rw[c.o,ifn i.o];rfl,d.o⟩
 have i:=qh (show ¬(x.size<=400/\y.size<=400) from λh=>by omega);have H:(400:Int)<(x.size:Int):=by omega
 clear l D F B;go_wp2;go_ret2;exact⟨by rw[c.o,ifn i.o];rfl,d.o⟩
theorem KV(n:Nat):((str (dec n)).toList==[48])=decide (n=0):=by
 rw[str_eq,decide_eq_decide];exact⟨λh=>Cy (h.trans Cz.symm),λh=>by rw[h,Cz]⟩
def Ps{n:Nat}(h:n≠0):((str (dec n)).toList==[48])=false:=by
 rw[str_eq,decide_eq_false_iff_not];exact λe=>h (Cy (e.trans Cz.symm))
def Ia(s:Bool)(m d:Nat)(w:World)(j:fits m)(hd:fits d)(i:d≠0):
  Calls prog 140 #[.bool s,.string (str (dec m)),.string (str (dec d))] w (PairEnd (limR (mkRat (sg s m) d)) w):=by
 obtain⟨l,o,C⟩:=NH (sg s m) d i;rw[IA]at l o;have z:fits (Nat.gcd m d):=Cf hd (Nat.le_of_dvd (Nat.pos_of_ne_zero i) (Nat.gcd_dvd_right _ _));have c:Nat.gcd m d≠0:=by have:=Nat.gcd_pos_of_pos_right m (Nat.pos_of_ne_zero i);omega
 have D:fits (m / Nat.gcd m d):=Cf j (Nat.div_le_self _ _);have E:fits (d / Nat.gcd m d):=Cf hd (Nat.div_le_self _ _);have A:∀n,fits n->∀g,Calls prog 176 #[.string (str (dec n))] g λe B=>e=.returned (.bool true)/\g=B:=by
  intro n k g;have:=Cm (str (dec n)) g (AS k);have p:As (bts (str (dec n)))=true:=AU k;rw[p]at this;exact this
 have F:=UJ s (str (dec m)) (str (dec d)) (str (dec (Nat.gcd m d))) (str (dec (m / Nat.gcd m d))) (str (dec (d / Nat.gcd m d))) _ _ (negQ (mkRat (sg s m) d)) w ?_ (Ps i) ?_ ?_
  (A m j) (A d hd) (λg=>OR m d g j hd) (λg=>OL m _ g j z c) (λg=>OL d _ g hd z c)
 ·refine F.mono ?_;rintro e B⟨rfl,hb⟩;refine⟨?_,hb⟩;have hf:fitQ (mkRat (sg s m) d)↔((str (dec (m / Nat.gcd m d))).size<=400/\(str (dec (d / Nat.gcd m d))).size<=400):=by
   unfold fitQ;rw[l,o,AH,AH]
  have k:txt (mkRat (sg s m) d)=txtM (negQ (mkRat (sg s m) d)) (str (dec (m / Nat.gcd m d))) (str (dec (d / Nat.gcd m d))):=by
   rw[Yv,<-Qj,l,o]
  by_cases h:fitQ (mkRat (sg s m) d)
  ·rw[CZ h,ifp (hf.1 h),k];rfl
  rw[Np h,ifn (λe=>h (hf.2 e))];rfl
 ·rw[C];cases s
  ·left;refine⟨rfl,?_⟩;rw[decide_eq_false_iff_not,IB];simp
  right;refine⟨rfl,?_⟩
  rw[KV];have G:m / Nat.gcd m d=0↔m=0:=by
   rw[Nat.div_eq_zero_iff]
   constructor
   ·intro h
    rcases h with h|h
    ·exact absurd h c
    by_cases u:m=0
    ·exact u
    have:=Nat.le_of_dvd (Nat.pos_of_ne_zero u) (Nat.gcd_dvd_left m d);omega
   intro h;right;rw[h];rw[h]at c;exact Nat.pos_of_ne_zero c
  rw[Bool.eq_iff_iff];simp only[decide_eq_true_eq,Bool.not_eq_true',decide_eq_false_iff_not,IB,G];simp
 ·rw[AH];exact D
 rw[AH];exact E
def Bg{fn:Func}{t u v x:Tmp}(h:fn.results=#[.tmp t,.tmp u,.tmp v,.tmp x])(c:Array Value)(P:Program)(w:World):
  (results fn c).run P w=.ok (.tuple #[c.getD t undef,c.getD u undef,c.getD v undef,c.getD x undef]) w:=by
 simp[results,h]
def Quad(ok neg:Bool)(n d:ByteArray):Value:=.tuple #[.bool (ok&&neg),.string (if ok then n else ⟨#[]⟩),.string (if ok then d else ⟨#[]⟩),.bool ok]
def okC(neg frac vn vd:Bool)(n d g:ByteArray):Bool:=vn&&vd&&!(d.toList==[48])&&!((n.toList==[48])&&(neg||frac))&&!((d.toList==[49])&&frac)&&((g.toList==[49])||(d.toList==[49]))
def Yx(c:UInt8)(h:c≠45):((c.toNat:Int)==45)=false:=by
 rw[beq_eq_false_iff_ne];intro e;apply h;apply UInt8.toNat_inj.1;show c.toNat=45;omega
def WX(s r n d g:ByteArray)(neg u z A:Bool)(i:Nat)(w:World)(U:s.size<=9223372036854775807)(T:r.size<=9223372036854775807)
  (hs:(neg=false/\r=s/\(s.size=0\/∃h:0<s.size,s[0]≠45))\/(neg=true/\r=s.extract 1 s.size/\∃h:0<s.size,s[0]=45))
  (hf:(u=false/\idxF r=-1/\n=r/\d=⟨#[49]⟩/\A=true/\(g.toList==[49])=true)\/(u=true/\idxF r=i/\i+1<=r.size/\n=r.extract 0 i/\d=r.extract (i+1) r.size))
  (c2:∀wx,Calls prog 169 #[.string r,.int .u8 47] wx λe w'=>e=.returned (.int .i64 (idxF r))/\Below wx.heap.size wx w')
  (c3:∀wx,Calls prog 170 #[.string n] wx λe w'=>e=.returned (.bool z)/\wx=w')
  (c4:∀wx,Calls prog 170 #[.string d] wx λe w'=>e=.returned (.bool A)/\wx=w')
  (c5:z=true->A=true->∀wx,Calls prog 171 #[.string n,.string d] wx (StrZ g wx)) :
  Calls prog 137 #[.string s] w λe w'=>e=.returned (Quad (okC neg u z A n d g) neg n d)/\Below w.heap.size w w':=by
 replace c2:=qh c2;replace c3:=qh c3;replace c4:=qh c4;replace c5:=qh c5;obtain⟨EE,j⟩:∃E:Value,E=Quad (okC neg u z A n d g) neg n d:=⟨_,rfl⟩;rw[<-j];replace j:=qh j;have b1:(s.size:Int)<=9223372036854775807:=by omega
 have b2:(r.size:Int)<=9223372036854775807:=by omega
 clear U T
 rcases hs with⟨rfl,rfl,B|⟨Z,B⟩⟩|⟨rfl,X,Z,B⟩
 ·
  rcases hf with⟨rfl,m,rfl,rfl,rfl,F⟩|⟨rfl,m,hi,C,hd⟩
  ·have p:=qh m;clear m
   go_enter func137,ntmps137
   go_wp2_with fail
   refine(c2.o _).mono ?_;rintro e H⟨rfl,o⟩;have c:=qh o;clear o;rw[p.o]
   go_wp2_with fail
   refine(c3.o _).mono ?_;rintro e w'⟨rfl,rfl⟩;cases z
   ·
    go_wp2_with fail
    refine bodyPost_ret (Bg rfl _ _ _) rfl ⟨?_,c.o⟩;rw[j.o];simp[okC,Quad, *]
   go_wp2_with fail
   refine(c4.o _).mono ?_;rintro e w'⟨rfl,rfl⟩;cases G:(n.toList==[48])
   ·
    go_wp2_with fail
    refine(c5.o (by trivial) (by trivial) _).mono ?_;rintro e D⟨rfl,k⟩;have l:=qh<|c.o.trans (k.mono c.o.size);clear k
    go_wp2_with fail
    refine bodyPost_ret (Bg rfl _ _ _) rfl ⟨?_,l.o⟩;rw[j.o];simp[okC,Quad, *]
   go_wp2_with fail
   refine(c5.o (by trivial) (by trivial) _).mono ?_;rintro e D⟨rfl,k⟩;have l:=qh<|c.o.trans (k.mono c.o.size);clear k
   go_wp2_with fail
   refine bodyPost_ret (Bg rfl _ _ _) rfl ⟨?_,l.o⟩;rw[j.o];simp[okC,Quad, *]
  exact absurd hi (by omega)
 ·have K:((r[0].toNat:Int)==45)=false:=Yx _ B;clear B
  rcases hf with⟨rfl,m,rfl,rfl,rfl,F⟩|⟨rfl,m,hi,C,hd⟩
  ·have p:=qh m;clear m
   go_enter func137,ntmps137
   go_wp2_with fail
   refine(c2.o _).mono ?_;rintro e H⟨rfl,o⟩;have c:=qh o;clear o;rw[p.o]
   go_wp2_with fail
   refine(c3.o _).mono ?_;rintro e w'⟨rfl,rfl⟩;cases z
   ·
    go_wp2_with fail
    refine bodyPost_ret (Bg rfl _ _ _) rfl ⟨?_,c.o⟩;rw[j.o];simp[okC,Quad, *]
   go_wp2_with fail
   refine(c4.o _).mono ?_;rintro e w'⟨rfl,rfl⟩;cases G:(n.toList==[48])
   ·
    go_wp2_with fail
    refine(c5.o (by trivial) (by trivial) _).mono ?_;rintro e D⟨rfl,k⟩;have l:=qh<|c.o.trans (k.mono c.o.size);clear k
    go_wp2_with fail
    refine bodyPost_ret (Bg rfl _ _ _) rfl ⟨?_,l.o⟩;rw[j.o];simp[okC,Quad, *]
   go_wp2_with fail
   refine(c5.o (by trivial) (by trivial) _).mono ?_;rintro e D⟨rfl,k⟩;have l:=qh<|c.o.trans (k.mono c.o.size);clear k
   go_wp2_with fail
   refine bodyPost_ret (Bg rfl _ _ _) rfl ⟨?_,l.o⟩;rw[j.o];simp[okC,Quad, *]
  have p:=qh m;clear m;have O:(0:Int)<=(i:Int):=by omega
  have P:(i:Int)<=(r.size:Int):=by omega
  have Q:(0:Int)<=(i:Int)+1:=by omega
  have R:(i:Int)+1<=(r.size:Int):=by omega
  have S:IntKind.i64.wrap ((i:Int)+1)=(i:Int)+1:=by rw[IntKind.wrap_i64];omega
  have J:=qh C.symm;clear C;have I:=qh hd.symm;clear hd hi
  go_enter func137,ntmps137
  go_wp2_with fail
  refine(c2.o _).mono ?_;rintro e H⟨rfl,o⟩;have c:=qh o;clear o;rw[p.o]
  go_wp2_with fail
  rw[J.o,I.o];refine(c3.o _).mono ?_;rintro e w'⟨rfl,rfl⟩;cases z
  ·
   go_wp2_with fail
   refine bodyPost_ret (Bg rfl _ _ _) rfl ⟨?_,c.o⟩;rw[j.o];simp[okC,Quad, *]
  go_wp2_with fail
  refine(c4.o _).mono ?_;rintro e w'⟨rfl,rfl⟩;cases A
  ·
   go_wp2_with fail
   refine bodyPost_ret (Bg rfl _ _ _) rfl ⟨?_,c.o⟩;rw[j.o];simp[okC,Quad, *]
  cases L:(d.toList==[48])
  ·
   cases G:(n.toList==[48])
   ·
    cases N:(d.toList==[49])
    ·
     go_wp2_with fail
     refine(c5.o (by trivial) (by trivial) _).mono ?_;rintro e D⟨rfl,k⟩;have l:=qh<|c.o.trans (k.mono c.o.size);clear k;cases Y:(g.toList==[49])
     ·
      go_wp2_with fail
      refine bodyPost_ret (Bg rfl _ _ _) rfl ⟨?_,l.o⟩;rw[j.o];simp[okC,Quad, *]
     go_wp2_with fail
     refine bodyPost_ret (Bg rfl _ _ _) rfl ⟨?_,l.o⟩;rw[j.o];simp[okC,Quad, *]
    go_wp2_with fail
    refine bodyPost_ret (Bg rfl _ _ _) rfl ⟨?_,c.o⟩;rw[j.o];simp[okC,Quad, *]
   go_wp2_with fail
   refine bodyPost_ret (Bg rfl _ _ _) rfl ⟨?_,c.o⟩;rw[j.o];simp[okC,Quad, *]
  go_wp2_with fail
  refine bodyPost_ret (Bg rfl _ _ _) rfl ⟨?_,c.o⟩;rw[j.o];simp[okC,Quad, *]
 have K:((s[0].toNat:Int)==45)=true:=by rw[B];rfl
 have W:=qh X.symm;clear X B;have a1:(1:Int)<=(s.size:Int):=by omega
 rcases hf with⟨rfl,m,rfl,rfl,rfl,F⟩|⟨rfl,m,hi,C,hd⟩
 ·have p:=qh m;clear m
  go_enter func137,ntmps137
  go_wp2_with fail
  rw[W.o];refine(c2.o _).mono ?_;rintro e H⟨rfl,o⟩;have c:=qh o;clear o;rw[p.o]
  go_wp2_with fail
  refine(c3.o _).mono ?_;rintro e w'⟨rfl,rfl⟩;cases z
  ·
   go_wp2_with fail
   refine bodyPost_ret (Bg rfl _ _ _) rfl ⟨?_,c.o⟩;rw[j.o];simp[okC,Quad, *]
  go_wp2_with fail
  refine(c4.o _).mono ?_;rintro e w'⟨rfl,rfl⟩;cases G:(n.toList==[48])
  ·
   go_wp2_with fail
   refine(c5.o (by trivial) (by trivial) _).mono ?_;rintro e D⟨rfl,k⟩;have l:=qh<|c.o.trans (k.mono c.o.size);clear k
   go_wp2_with fail
   refine bodyPost_ret (Bg rfl _ _ _) rfl ⟨?_,l.o⟩;rw[j.o];simp[okC,Quad, *]
  go_wp2_with fail
  refine bodyPost_ret (Bg rfl _ _ _) rfl ⟨?_,c.o⟩;rw[j.o];simp[okC,Quad, *]
 have p:=qh m;clear m;have O:(0:Int)<=(i:Int):=by omega
 have P:(i:Int)<=(r.size:Int):=by omega
 have Q:(0:Int)<=(i:Int)+1:=by omega
 have R:(i:Int)+1<=(r.size:Int):=by omega
 have S:IntKind.i64.wrap ((i:Int)+1)=(i:Int)+1:=by rw[IntKind.wrap_i64];omega
 have J:=qh C.symm;clear C;have I:=qh hd.symm;clear hd hi
 go_enter func137,ntmps137
 go_wp2_with fail
 rw[W.o];refine(c2.o _).mono ?_;rintro e H⟨rfl,o⟩;have c:=qh o;clear o;rw[p.o]
 go_wp2_with fail
 rw[J.o,I.o];refine(c3.o _).mono ?_;rintro e w'⟨rfl,rfl⟩;cases z
 ·
  go_wp2_with fail
  refine bodyPost_ret (Bg rfl _ _ _) rfl ⟨?_,c.o⟩;rw[j.o];simp[okC,Quad, *]
 go_wp2_with fail
 refine(c4.o _).mono ?_;rintro e w'⟨rfl,rfl⟩;cases A
 ·
  go_wp2_with fail
  refine bodyPost_ret (Bg rfl _ _ _) rfl ⟨?_,c.o⟩;rw[j.o];simp[okC,Quad, *]
 cases L:(d.toList==[48])
 ·
  cases G:(n.toList==[48])
  ·
   cases N:(d.toList==[49])
   ·
    go_wp2_with fail
    refine(c5.o (by trivial) (by trivial) _).mono ?_;rintro e D⟨rfl,k⟩;have l:=qh<|c.o.trans (k.mono c.o.size);clear k;cases Y:(g.toList==[49])
    ·
     go_wp2_with fail
     refine bodyPost_ret (Bg rfl _ _ _) rfl ⟨?_,l.o⟩;rw[j.o];simp[okC,Quad, *]
    go_wp2_with fail
    refine bodyPost_ret (Bg rfl _ _ _) rfl ⟨?_,l.o⟩;rw[j.o];simp[okC,Quad, *]
   go_wp2_with fail
   refine bodyPost_ret (Bg rfl _ _ _) rfl ⟨?_,c.o⟩;rw[j.o];simp[okC,Quad, *]
  go_wp2_with fail
  refine bodyPost_ret (Bg rfl _ _ _) rfl ⟨?_,c.o⟩;rw[j.o];simp[okC,Quad, *]
 go_wp2_with fail
 refine bodyPost_ret (Bg rfl _ _ _) rfl ⟨?_,c.o⟩;rw[j.o];simp[okC,Quad, *]
variable{r:ByteArray}
def AW(o:Option Rat):Value:=match o with
 |some q=>.tuple #[.bool (negQ q),.string (str (dec q.num.natAbs)),.string (str (dec q.den)),.bool true]
 |none=>.tuple #[.bool false,.string ⟨#[]⟩,.string ⟨#[]⟩,.bool false]
theorem SF(h:hasS (bts r)=true):r.extract 0 (upTo (bts r)).length=str (upTo (bts r)):=by
 have c:=Fc _ h
 apply Do;rw[FF,AL];conv=>lhs;arg 2;arg 2;rw[c]
 rw[List.take_left,List.drop_zero]
theorem SG(h:hasS (bts r)=true):r.extract ((upTo (bts r)).length+1) r.size=str (Bj (bts r)):=by
 have c:=Fc _ h
 apply Do;rw[FF,AL,List.take_of_length_le (by rw[Aq];omega)]
 conv=>lhs;arg 2;rw[c]
 rw[<-List.drop_drop,List.drop_left];rfl
def SH(h:hasS (bts r)=true):(upTo (bts r)).length+1<=r.size:=by
 have c:=congrArg List.length (Fc _ h);rw[Aq,List.length_append,List.length_cons]at c;omega
def RO(i g l k n0 j c d neg:Bool)(h:i=true->g=true->n0=true->d=true->c=true):
  ((l&&i)&&(k&&g)&&!j&&!(n0&&(neg||true))&&!(c&&true)&&(d||c))=(i&&g&&l&&k&&!(neg&&n0)&&!(true&&(j||c))&&d):=by
 cases i<;>cases g<;>cases n0<;>cases d<;>cases c<;>cases l<;>cases k<;>cases j<;>cases neg<;>first|rfl|(simp at h)
def RP(d c n0 neg:Bool):((c&&d)&&true&&!false&&!(n0&&(neg||false))&&!(true&&false)&&(true||true))=(d&&true&&c&&true&&!(neg&&n0)&&!(false&&(false||true))&&true):=by
 cases d<;>cases n0<;>cases c<;>cases neg<;>rfl
theorem MB(n:Nat):decide (dec n=[49])=decide (n=1):=by
 rw[decide_eq_decide];exact⟨λh=>Cy (h.trans Cd.symm),λh=>by rw[h,Cd]⟩
theorem JY(l r:List UInt8):(l==r)=decide (l=r):=by rw[Bool.eq_iff_iff];simp
def Du(s:ByteArray)(w:World)(P:s.size<=9223372036854775807):
  Calls prog 137 #[.string s] w λe w'=>e=.returned (AW (prs s))/\Below w.heap.size w w':=by
 obtain⟨r,u⟩:=exq<|str (Al (bts s));have i:bts r=Al (bts s):=by rw[u,AL]
 have O:r.size<=s.size:=by
  rw[<-Aq,i];unfold Al;split
  ·rw[List.length_tail,Aq];omega
  rw[Aq];omega
 have A:(str (denL (bts r))).size<=9223372036854775807:=by
  rw[AH];unfold denL;split
  ·rename_i h;have:=congrArg List.length (Fc _ h);rw[Aq,List.length_append,List.length_cons]at this;omega
  show 1<=_;omega
 have C:(str (upTo (bts r))).size<=9223372036854775807:=by
  rw[AH];have:=(List.takeWhile_sublist (· != 47) (l:=bts r)).length_le;rw[Aq]at this;unfold upTo;omega
 have N:=WX s r (str (upTo (bts r))) (str (denL (bts r))) (str (dec (Nat.gcd (num (upTo (bts r))) (num (denL (bts r)))))) (AP (bts s)) (hasS (bts r))
  (decide ((str (upTo (bts r))).size<=400)&&vld (str (upTo (bts r)))) (decide ((str (denL (bts r))).size<=400)&&vld (str (denL (bts r)))) (upTo (bts r)).length w P (by omega) ?_ ?_
  (λg=>Uk r g (by omega)) (λg=>Px _ g C) (λg=>Px _ g A)
  (λz o g=>by
   simp only[Bool.and_eq_true,decide_eq_true_eq]at z o;have v1:As (upTo (bts r))=true:=by have:=z.2;unfold vld at this;rw[AL]at this;exact this
   have J:As (denL (bts r))=true:=by have:=o.2;unfold vld at this;rw[AL]at this;exact this
   have k:=BV v1;have m:=BV J;have K:fits (num (upTo (bts r))):=by unfold fits;rw[k];exact(Bc v1).2.1
   have L:fits (num (denL (bts r))):=by unfold fits;rw[m];exact(Bc J).2.1
   have:=OR _ _ g K L;rw[k,m]at this;exact this)
 ·refine N.mono ?_;rintro e w'⟨rfl,hb⟩;refine⟨?_,hb⟩;have D:okC (AP (bts s)) (hasS (bts r)) (decide ((str (upTo (bts r))).size<=400)&&vld (str (upTo (bts r)))) (decide ((str (denL (bts r))).size<=400)&&vld (str (denL (bts r)))) (str (upTo (bts r))) (str (denL (bts r))) (str (dec (Nat.gcd (num (upTo (bts r))) (num (denL (bts r))))))
    = okP (AP (bts s)) (upTo (bts r)) (denL (bts r)) (hasS (bts r)):=by
   unfold okC okP vld;rw[str_eq,str_eq,str_eq,str_eq,AH,AH,AL,AL,MB,JY,JY,JY];cases hf:hasS (bts r)
   ·have hd:denL (bts r)=[49]:=by unfold denL;rw[hf];rfl
    rw[hd];have k:decide (Nat.gcd (num (upTo (bts r))) (num [49])=1)=true:=by
     rw[decide_eq_true_eq];show Nat.gcd _ 1=1;exact Nat.gcd_one_right _
    have m:As [49]=true:=by decide
    rw[k,m];exact RP _ _ _ _
   refine RO _ _ _ _ _ _ _ _ _ ?_;intro z o G p;rw[decide_eq_true_eq]at G p ⊢;rw[G]at p;have:num (denL (bts r))=1:=by rw[show num [48]=0 from rfl,Nat.gcd_zero_left]at p;exact p
   rw[<-BV o,this,Cd]
  rw[D,i];cases I:okP (AP (bts s)) (upTo (Al (bts s))) (denL (Al (bts s))) (hasS (Al (bts s)))
  ·have d:prs s=none:=by unfold prs prsL;rw[I];rfl
   rw[d];rfl
  have d:prs s=some (mkRat (sg (AP (bts s)) (num (upTo (Al (bts s))))) (num (denL (Al (bts s))))):=by unfold prs prsL;rw[I];rfl
  have E:=(Kq d).2;rw[d];simp only[AW,E.sign,E.top,E.bot];rfl
 ·by_cases F:s.size=0
  ·have B:bts s=[]:=List.length_eq_zero_iff.1 (by rw[Aq];exact F)
   left;refine⟨by rw[B];rfl,?_,.inl F⟩
   rw[u,B];apply Do;rw[AL,B];rfl
  have d:0<s.size:=by omega
  have H:=FP s d;by_cases c:s[0]=45
  ·right
   have j:AP (bts s)=true:=by unfold AP;rw[H,c];rfl
   refine⟨j,?_,d,c⟩;rw[u];apply Do;rw[AL,FF,List.take_of_length_le (by rw[Aq];omega)];unfold Al;rw[j];cases bts s<;>rfl
  left
  have j:AP (bts s)=false:=by unfold AP;rw[H,beq_eq_false_iff_ne];exact c
  refine⟨j,?_,.inr ⟨d,c⟩⟩;rw[u];unfold Al;rw[j];exact Ei s
 cases hf:hasS (bts r)
 ·left
  have hd:denL (bts r)=[49]:=by unfold denL;rw[hf];rfl
  refine⟨rfl,by unfold idxF;rw[hf];rfl,by rw[Hp _ hf,Ei],by rw[hd];rfl,?_,?_⟩
  ·rw[hd];decide
  rw[hd,str_eq,MB,decide_eq_true_eq];exact Nat.gcd_one_right _
 right
 have hd:denL (bts r)=Bj (bts r):=by unfold denL;rw[hf];rfl
 exact⟨rfl,by unfold idxF;rw[hf];rfl,SH hf,(SF hf).symm,by rw[hd];exact(SG hf).symm⟩
def PU(a:ByteArray)(w:World)(i:a.size<=9223372036854775807):
  Calls prog 135 #[.string a] w λe w'=>e=.returned (.bool (prs a).isSome)/\Below w.heap.size w w':=by
 have c:=Du a w i;cases d:prs a with
 |none =>
  rw[d]at c;simp only[AW]at c;have h:=qh c;clear c d i
  go_enter func135,ntmps135
  go_wp2_with fail
  refine h.o.mono ?_;rintro e w'⟨rfl,hb⟩;have g:=qh hb;clear hb;go_wp2;go_ret;exact⟨rfl,g.o⟩
 |some q =>
  rw[d]at c;simp only[AW]at c;have h:=qh c;clear c d i
  go_enter func135,ntmps135
  go_wp2_with fail
  refine h.o.mono ?_;rintro e w'⟨rfl,hb⟩;have g:=qh hb;clear hb;go_wp2;go_ret;exact⟨rfl,g.o⟩
def negF(a:ByteArray):ByteArray × Nat:=match prs a with|some x=>limR (-x)|none=>(str [],1)
theorem Vm(q:Rat):mkRat (sg (!negQ q) q.num.natAbs) q.den=-q:=by
 rw[KW,Ew,<-Rat.neg_mkRat,Rat.mkRat_self]
theorem Xx(a:ByteArray)(w:World)(k:a.size<=9223372036854775807):
  Calls prog 246 #[.string a] w (PairEnd (negF a) w):=by
 have c:=Du a w k;cases d:prs a with
 |none =>
  have g:negF a=(str [],1):=by unfold negF;rw[d]
  rw[g];rw[d]at c;simp only[AW]at c;have j:=qh c;clear c d k g
  go_enter func246,ntmps246
  go_wp2_with fail
  refine j.o.mono ?_;rintro e o⟨rfl,hb⟩;replace hb:=qh hb;go_wp2;go_ret2;exact⟨rfl,hb.o⟩
 |some q =>
  have hf:=(AT d).2;have g:negF a=limR (-q):=by unfold negF;rw[d]
  have c2:=λl=>Ia (!negQ q) q.num.natAbs q.den l (BC hf) (AZ hf) q.den_nz;rw[Vm]at c2;rw[g];rw[d]at c;simp only[AW]at c;generalize limR (-q)=lr at *;obtain⟨ls,m⟩:=lr;replace c2:=qh c2;have j:=qh c;clear c d k g hf
  go_enter func246,ntmps246
  go_wp2_with fail
  refine nxa j.o λp h=>?_
  go_wp2_with fail
  refine nxb (c2.o _) h λs i=>?_;go_wp2;go_ret2;exact⟨rfl,i.o⟩
def KU(a b:ByteArray)(w:World)(F:a.size<=9223372036854775807)(hb:b.size<=9223372036854775807):
  Calls prog 98 #[.string a,.string b] w (PairEnd (Bb a b) w):=by
 have c1:=λc=>Du a c F;have c2:=λc=>Du b c hb;clear F hb;cases j:prs a with
 |none =>
  have l:Bb a b=(str [],1):=by unfold Bb;rw[j]
  rw[l];rw[j]at c1;simp only[AW]at c1;have o:=qh c1;clear c1 j l;cases h:prs b
  rotate_left
  all_goals
   rw[h]at c2;simp only[AW]at c2;have m:=qh c2;clear c2 h
   go_enter func98,ntmps98
   go_wp2_with fail
   refine nxa (o.o _) λG d=>?_
   go_wp2_with fail
   refine nxb (m.o _) d λH g=>?_;go_wp2;go_ret2;exact⟨rfl,g.o⟩
 |some x =>
  rw[j]at c1;simp only[AW]at c1;have o:=qh c1;clear c1;have i:=(AT j).2;cases h:prs b with
  |none =>
   have l:Bb a b=(str [],1):=by unfold Bb;rw[j,h]
   rw[l];rw[h]at c2;simp only[AW]at c2;have m:=qh c2;clear c2 j h l i
   go_enter func98,ntmps98
   go_wp2_with fail
   refine nxa (o.o _) λG d=>?_
   go_wp2_with fail
   refine nxb (m.o _) d λH g=>?_;go_wp2;go_ret2;exact⟨rfl,g.o⟩
  |some y =>
   rw[h]at c2;simp only[AW]at c2;have m:=qh c2;clear c2;have k:=(AT h).2;have D:fits (x.num.natAbs*y.den):=Bo i.1 k.2;have E:fits (y.num.natAbs*x.den):=Bo k.1 i.2;have B:fits (x.num.natAbs*y.den+y.num.natAbs*x.den):=FN i.1 k.2 k.1 i.2;have C:fits (x.den*y.den):=Bo i.2 k.2;have l:Bb a b=limR (x+y):=by unfold Bb;rw[j,h]
   have c6:=λc=>Ia (sumF (negQ x) (x.num.natAbs*y.den) (negQ y) (y.num.natAbs*x.den)).1 (sumF (negQ x) (x.num.natAbs*y.den) (negQ y) (y.num.natAbs*x.den)).2 (x.den*y.den) c (Cf B (Lb _ _ _ _)) C (Nat.mul_ne_zero x.den_nz y.den_nz);rw[<-LM x y]at c6;rw[l];have c3:=λc=>DJ _ _ c (BC i) (AZ k) D;have c4:=λc=>DJ _ _ c (BC k) (AZ i) E;have c5:=λc=>PH (negQ x) (negQ y) _ _ c B;have c7:=λc=>DJ _ _ c (AZ i) (AZ k) C;generalize limR (x+y)=lr at *;obtain⟨ls,I⟩:=lr;replace c3:=qh c3;replace c4:=qh c4;replace c5:=qh c5;replace c6:=qh c6;replace c7:=qh c7;clear j h l i k D E B C
   go_enter func98,ntmps98
   go_wp2_with fail
   refine nxa (o.o _) λG d=>?_
   go_wp2_with fail
   refine nxb (m.o _) d λH g=>?_
   go_wp2_with fail
   refine nxb (c3.o _) g λJ p=>?_
   go_wp2_with fail
   refine nxb (c4.o _) p λK s=>?_
   go_wp2_with fail
   refine nxb (c5.o _) s λL u=>?_
   go_wp2_with fail
   refine nxb (c7.o _) u λN z=>?_
   go_wp2_with fail
   refine nxb (c6.o _) z λO A=>?_;go_wp2;go_ret2;exact⟨rfl,A.o⟩
def Xw(a b:ByteArray)(w:World)(B:a.size<=9223372036854775807)(hb:b.size<=9223372036854775807):
  Calls prog 99 #[.string a,.string b] w (PairEnd (BR a b) w):=by
 have c1:=λi=>Du a i B;have c2:=λi=>Du b i hb;clear B hb;cases h:prs a with
 |none =>
  have j:BR a b=(str [],1):=by unfold BR;rw[h]
  rw[j];rw[h]at c1;simp only[AW]at c1;have o:=qh c1;clear c1 h j;cases g:prs b
  rotate_left
  all_goals
   rw[g]at c2;simp only[AW]at c2;have l:=qh c2;clear c2 g
   go_enter func99,ntmps99
   go_wp2_with fail
   refine nxa (o.o _) λC c=>?_
   go_wp2_with fail
   refine nxb (l.o _) c λD d=>?_;go_wp2;go_ret2;exact⟨rfl,d.o⟩
 |some x =>
  rw[h]at c1;simp only[AW]at c1;have o:=qh c1;clear c1;have k:=(AT h).2;cases g:prs b with
  |none =>
   have j:BR a b=(str [],1):=by unfold BR;rw[h,g]
   rw[j];rw[g]at c2;simp only[AW]at c2;have l:=qh c2;clear c2 h g j k
   go_enter func99,ntmps99
   go_wp2_with fail
   refine nxa (o.o _) λC c=>?_
   go_wp2_with fail
   refine nxb (l.o _) c λD d=>?_;go_wp2;go_ret2;exact⟨rfl,d.o⟩
  |some y =>
   rw[g]at c2;simp only[AW]at c2;have l:=qh c2;clear c2;have m:=(AT g).2;have z:fits (x.num.natAbs*y.num.natAbs):=Bo k.1 m.1;have A:fits (x.den*y.den):=Bo k.2 m.2;have j:BR a b=limR (x*y):=by unfold BR;rw[h,g]
   have c6:=λi=>Ia (negQ x != negQ y) (x.num.natAbs*y.num.natAbs) (x.den*y.den) i z A (Nat.mul_ne_zero x.den_nz y.den_nz);rw[<-NN x y]at c6;rw[j];have c3:=λi=>DJ _ _ i (BC k) (BC m) z;have c4:=λi=>DJ _ _ i (AZ k) (AZ m) A;generalize limR (x*y)=lr at *;obtain⟨ls,E⟩:=lr;replace c3:=qh c3;replace c4:=qh c4;replace c6:=qh c6;clear h g j k m z A
   go_enter func99,ntmps99
   go_wp2_with fail
   refine nxa (o.o _) λC c=>?_
   go_wp2_with fail
   refine nxb (l.o _) c λD d=>?_
   go_wp2_with fail
   refine nxb (c3.o _) d λF p=>?_
   go_wp2_with fail
   refine nxb (c4.o _) p λG s=>?_
   go_wp2_with fail
   refine nxb (c6.o _) s λH u=>?_;go_wp2;go_ret2;exact⟨rfl,u.o⟩
def Xm(a b:ByteArray)(w:World)(E:a.size<=9223372036854775807)(hb:b.size<=9223372036854775807):
  Calls prog 231 #[.string a,.string b] w (PairEnd (Bq a b) w):=by
 have c1:=λj=>Du a j E;have c2:=λj=>Du b j hb;clear E hb;cases h:prs a with
 |none =>
  have i:Bq a b=(str [],1):=by unfold Bq;rw[h]
  rw[i];rw[h]at c1;simp only[AW]at c1;have p:=qh c1;clear c1 h i;cases g:prs b
  rotate_left
  all_goals
   rw[g]at c2;simp only[AW]at c2;have m:=qh c2;clear c2 g
   go_enter func231,ntmps231
   go_wp2_with fail
   refine nxa (p.o _) λC c=>?_
   go_wp2_with fail
   refine nxb (m.o _) c λD d=>?_;go_wp2;go_ret2;exact⟨rfl,d.o⟩
 |some x =>
  rw[h]at c1;simp only[AW]at c1;have p:=qh c1;clear c1;have l:=(AT h).2;cases g:prs b with
  |none =>
   have i:Bq a b=(str [],1):=by unfold Bq;rw[h,g]
   rw[i];rw[g]at c2;simp only[AW]at c2;have m:=qh c2;clear c2 h g i l
   go_enter func231,ntmps231
   go_wp2_with fail
   refine nxa (p.o _) λC c=>?_
   go_wp2_with fail
   refine nxb (m.o _) c λD d=>?_;go_wp2;go_ret2;exact⟨rfl,d.o⟩
  |some y =>
   rw[g]at c2;simp only[AW]at c2;have m:=qh c2;clear c2;have o:=(AT g).2;by_cases k:y=0
   ·have F:((str (dec y.num.natAbs)).toList==[48])=true:=by rw[k,KV];rfl
    have i:Bq a b=(str [],4):=by unfold Bq;rw[h,g];exact ifp k
    rw[i];clear k i h g l o
    go_enter func231,ntmps231
    go_wp2_with fail
    refine nxa (p.o _) λC c=>?_
    go_wp2_with fail
    refine nxb (m.o _) c λD d=>?_;go_wp2;go_ret2;exact⟨rfl,d.o⟩
   have F:((str (dec y.num.natAbs)).toList==[48])=false:=Ps<|λe=>k (Rat.num_eq_zero.1 (Int.natAbs_eq_zero.1 e));have A:fits (x.num.natAbs*y.den):=Bo l.1 o.2;have B:fits (x.den*y.num.natAbs):=Bo l.2 o.1;have i:Bq a b=limR (x / y):=by unfold Bq;rw[h,g];exact ifn k
   have c6:=λj=>Ia (negQ x != negQ y) (x.num.natAbs*y.den) (x.den*y.num.natAbs) j A B (Nat.mul_ne_zero x.den_nz (λe=>k (Rat.num_eq_zero.1 (Int.natAbs_eq_zero.1 e))));rw[<-MH x y]at c6;rw[i];have c3:=λj=>DJ _ _ j (BC l) (AZ o) A;have c4:=λj=>DJ _ _ j (AZ l) (BC o) B;generalize limR (x / y)=lr at *;obtain⟨ls,G⟩:=lr;replace c3:=qh c3;replace c4:=qh c4;replace c6:=qh c6;clear h g i l o A B k
   go_enter func231,ntmps231
   go_wp2_with fail
   refine nxa (p.o _) λC c=>?_
   go_wp2_with fail
   refine nxb (m.o _) c λD d=>?_
   go_wp2_with fail
   refine nxb (c3.o _) d λH s=>?_
   go_wp2_with fail
   refine nxb (c4.o _) s λI u=>?_
   go_wp2_with fail
   refine nxb (c6.o _) u λJ z=>?_;go_wp2;go_ret2;exact⟨rfl,z.o⟩
def Pr(a b:ByteArray)(w:World)(E:a.size<=9223372036854775807)(hb:b.size<=9223372036854775807):
  Calls prog 136 #[.string a,.string b] w (IntEnd (Bp a b) w):=by
 have c1:=λi=>Du a i E;have c2:=λi=>Du b i hb;clear E hb;cases h:prs a with
 |none =>
  have j:Bp a b=0:=by unfold Bp;rw[h]
  rw[j];rw[h]at c1;simp only[AW]at c1;have p:=qh c1;clear c1 h j;cases g:prs b
  rotate_left
  all_goals
   rw[g]at c2;simp only[AW]at c2;have o:=qh c2;clear c2 g
   go_enter func136,ntmps136
   go_wp2_with fail
   refine nxa (p.o _) λG c=>?_
   go_wp2_with fail
   refine nxb (o.o _) c λH d=>?_;go_wp2;go_ret;exact⟨rfl,d.o⟩
 |some x =>
  rw[h]at c1;simp only[AW]at c1;have p:=qh c1;clear c1;have k:=(AT h).2;cases g:prs b with
  |none =>
   have j:Bp a b=0:=by unfold Bp;rw[h,g]
   rw[j];rw[g]at c2;simp only[AW]at c2;have o:=qh c2;clear c2 h g j k
   go_enter func136,ntmps136
   go_wp2_with fail
   refine nxa (p.o _) λG c=>?_
   go_wp2_with fail
   refine nxb (o.o _) c λH d=>?_;go_wp2;go_ret;exact⟨rfl,d.o⟩
  |some y =>
   rw[g]at c2;simp only[AW]at c2;have o:=qh c2;clear c2;have l:=(AT g).2;have B:fits (x.num.natAbs*y.den):=Bo k.1 l.2;have C:fits (y.num.natAbs*x.den):=Bo l.1 k.2;have D:fits (x.num.natAbs*y.den+y.num.natAbs*x.den):=FN k.1 l.2 l.1 k.2;have j:Bp a b=cmpQ x y:=by unfold Bp;rw[h,g]
   rw[j,Ms x y];have c3:=λi=>DJ _ _ i (BC k) (AZ l) B;have c4:=λi=>DJ _ _ i (BC l) (AZ k) C;have c5:=λi=>PH (negQ x) (!negQ y) _ _ i D;generalize sumF (negQ x) (x.num.natAbs*y.den) (!negQ y) (y.num.natAbs*x.den)=r at *;obtain⟨rs,F⟩:=r;have A:=KV F;simp only at c5 A ⊢;replace c3:=qh c3;replace c4:=qh c4;replace c5:=qh c5;clear h g j k l B C D;by_cases m:F=0;rw[decide_eq_true m]at A;rw[ifp m];clear m
   rotate_left
   rw[decide_eq_false m]at A;rw[ifn m];clear m;cases rs;simp only[Bool.false_eq_true,if_false]
   rotate_left
   simp only[if_true]
   all_goals
    go_enter func136,ntmps136
    go_wp2_with fail
    refine nxa (p.o _) λG c=>?_
    go_wp2_with fail
    refine nxb (o.o _) c λH d=>?_
    go_wp2_with fail
    refine nxb (c3.o _) d λI s=>?_
    go_wp2_with fail
    refine nxb (c4.o _) s λJ u=>?_
    go_wp2_with fail
    refine nxb (c5.o _) u λK z=>?_;go_wp2;go_ret;exact⟨rfl,z.o⟩
def JI{q:Rat}(h:fitQ q):fitQ (-q):=EX.2<|szQ.neg (EX.1 h)
def Xy(a b:ByteArray)(w:World)(l:a.size<=9223372036854775807)(hb:b.size<=9223372036854775807):
  Calls prog 230 #[.string a,.string b] w (PairEnd (Cb a b) w):=by
 have c1:=λo=>Xx b o hb;have c2:=λo=>PU a o l;cases d:prs b with
 |none =>
  have j:negF b=(str [],1):=by unfold negF;rw[d]
  have g:Cb a b=(str [],1):=by unfold Cb;rw[d];cases prs a<;>rfl
  rw[g];rw[j]at c1;have k:=qh c1;clear c1 c2 d j g l hb
  go_enter func230,ntmps230
  go_wp2_with fail
  refine nxa (k.o _) λz c=>?_;go_wp2;go_ret2;exact⟨rfl,c.o⟩
 |some y =>
  have m:=(AT d).2;have j:negF b=(txt (-y),0):=by unfold negF;rw[d];exact CZ<|JI m
  rw[j]at c1;cases i:prs a with
  |none =>
   have g:Cb a b=(str [],1):=by unfold Cb;rw[i]
   rw[g];rw[i]at c2;simp only[Option.isSome]at c2;generalize txt (-y)=ty at *;have k:=qh c1;clear c1;have p:=qh c2;clear c2 i d j g m l hb
   go_enter func230,ntmps230
   go_wp2_with fail
   refine nxa (k.o _) λz c=>?_
   go_wp2_with fail
   refine nxb (p.o _) c λB h=>?_;go_wp2;go_ret2;exact⟨rfl,h.o⟩
  |some x =>
   have u:=Bl<|JI m;have A:=Dg<|JI m;have g:Cb a b=Bb a (txt (-y)):=by unfold Cb Bb;rw[i,d,u];simp only;rw[Rat.sub_eq_add_neg]
   rw[g];rw[i]at c2;simp only[Option.isSome]at c2;have c3:=λo=>KU a (txt (-y)) o l (by omega);generalize Bb a (txt (-y))=lr at *;obtain⟨ls,C⟩:=lr;generalize txt (-y)=ty at *;have k:=qh c1;clear c1;have p:=qh c2;clear c2;replace c3:=qh c3;clear i d j g m l hb u A
   go_enter func230,ntmps230
   go_wp2_with fail
   refine nxa (k.o _) λz c=>?_
   go_wp2_with fail
   refine nxb (p.o _) c λB h=>?_
   go_wp2_with fail
   refine nxb (c3.o _) h λD s=>?_;go_wp2;go_ret2;exact⟨rfl,s.o⟩
end
end Go.Proofs.YtpldocnhbdlgfaaGreatDoor
