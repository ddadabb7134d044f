/- Parts. -/
import Derived.Test.YteappjogmnogcaaGreatDoorZ07
import Derived.Test.YteappjogmnogcaaGreatDoorZ06
namespace Go.Proofs.YteappjogmnogcaaGreatDoor
set_option maxRecDepth 100000
set_option linter.all false
set_option maxHeartbeats 16000000
open Go Tryz
section
open Go.RowKit
variable{L d xs:List Nat}{c i l x y:Nat}
def TP(h:Dig L)(j v:Nat)(d:v<10):Dig (L.set j v):=λi=>by
 by_cases c:j<L.length
 ·rw[Fl L j v i c];split
  ·exact d
  exact h i
 rw[List.set_eq_of_length_le (by omega)];exact h i
def Uh(L:List Nat):∀(j v:Nat),j<L.length->dval (L.set j v)+10 ^ j*nth L j=dval L+10 ^ j*v:=by
 induction L with
 |nil=>intro j v h;simp at h
 |cons x L ih =>
  intro j v h;cases j with
  |zero=>simp only[List.set_cons_zero,dval,Ki,Nat.pow_zero];omega
  |succ j =>
   have:=ih j v (by simpa using h);simp only[List.set_cons_succ,dval,HD,Nat.pow_succ];have e:10*(dval (L.set j v)+10 ^ j*nth L j)=10*(dval L+10 ^ j*v):=by rw[this]
   rw[Nat.mul_add,Nat.mul_add,<-Nat.mul_assoc,<-Nat.mul_assoc,Nat.mul_comm 10 (10 ^ j)]at e;omega
theorem OC(k i:Nat):nth (List.replicate k 0) i=0:=by unfold nth;simp[List.getD_eq_getElem?_getD,List.getElem?_replicate];split<;>rfl
structure MulIR(xs ys L:List Nat)(i k c:Nat):Prop where
 dig:Dig L
 carry:c<10
 len:L.length=xs.length+ys.length+1
 val:dval L+10 ^ (i+k)*c=dval (xs.take i)*dval ys+10 ^ i*(nth xs i*dval (ys.take k))
structure MulOR(xs ys L:List Nat)(i:Nat):Prop where
 dig:Dig L
 len:L.length=xs.length+ys.length+1
 val:dval L=dval (xs.take i)*dval ys
theorem MulOR.start(xs c:List Nat):MulOR xs c (List.replicate (xs.length+c.length+1) 0) 0 :=
 ⟨λi=>by rw[OC];omega,by simp,by rw[Ng (OC _)];simp[dval]⟩
def MulOR.inner{c:List Nat}(h:MulOR xs c L i):MulIR xs c L i 0 0 :=
 ⟨h.dig,by omega,h.len,by rw[h.val];simp[dval]⟩
def Wr(d:l<10)(g:c<10)(h:x<10)(i:y<10):l+x*y+c<100:=by
 have:x*y<=9*9:=Nat.mul_le_mul (by omega) (by omega);omega
def MulIR.step{k:Nat}(h:MulIR xs d L i k c)(C:Dig xs)(D:Dig d)(hi:i<xs.length)(E:k<d.length+1)(u:l=nth L (i+k))(o:x=nth xs i)(z:y=nth d k):
  MulIR xs d (L.set (i+k) ((l+x*y+c) % 10)) i (k+1) ((l+x*y+c) / 10):=by
 have hb:=Wr (h.dig (i+k)) h.carry (C i) (D k);have s:i+k<L.length:=by rw[h.len];omega
 have g:=Uh L (i+k) ((l+x*y+c) % 10) s;have m:=h.val;have j:=EY d k;rw[<-u,<-o,<-z]at hb;rw[<-u]at g;rw[<-z]at j;rw[<-o]at m;generalize hp:l+x*y+c=p at *;have A:10 ^ (i+k)*l+10 ^ (i+k)*(x*y)+10 ^ (i+k)*c=10 ^ (i+k)*p:=by rw[<-hp,Nat.mul_add,Nat.mul_add]
 have B:10 ^ (i+k)*p=10 ^ (i+k)*(p % 10)+10 ^ (i+k)*10*(p / 10):=by
  rw[Nat.mul_assoc,<-Nat.mul_add,Nat.mod_add_div]
 refine⟨TP h.dig _ _ (by omega),by omega,by simp[h.len],?_⟩;rw[j,Nat.mul_add,Nat.mul_add,show i+(k+1)=i+k+1 by omega,Nat.pow_succ 10 (i+k),<-o];have e:10 ^ i*(x*(10 ^ k*y))=10 ^ (i+k)*(x*y):=by
  rw[Nat.pow_add,Nat.mul_left_comm x,Nat.mul_assoc]
 rw[e];omega
def MulIR.done(h:MulIR xs d L i (d.length+1) c)(m:Dig xs)(o:Dig d)(hi:i<xs.length):MulOR xs d L (i+1):=by
 refine⟨h.dig,h.len,?_⟩;have g:=h.val;rw[List.take_of_length_le (by omega:d.length<=d.length+1)]at g;have e:dval (xs.take i)*dval d+10 ^ i*(nth xs i*dval d)=dval (xs.take (i+1))*dval d:=by
  rw[EY,Nat.add_mul,Nat.mul_assoc]
 rw[e]at g;have k:dval (xs.take (i+1))<10 ^ (i+1):=by
  have:=FR<|Hg m (i+1);rw[List.length_take,Nat.min_eq_left (by omega)]at this;exact this
 have p:=FR o;have l:dval (xs.take (i+1))*dval d<10 ^ (i+1)*10 ^ d.length:=by
  have s:dval (xs.take (i+1))*dval d<=dval (xs.take (i+1))*10 ^ d.length:=Nat.mul_le_mul_left _ (by omega);have u:dval (xs.take (i+1))*10 ^ d.length<10 ^ (i+1)*10 ^ d.length:=Nat.mul_lt_mul_of_pos_right k (Nat.pow_pos (by omega));omega
 rw[<-Nat.pow_add,show i+1+d.length=i+(d.length+1) by omega]at l
 rcases Nat.eq_zero_or_pos c with j|j
 ·subst j;rw[Nat.mul_zero,Nat.add_zero]at g;exact g
 have:10 ^ (i+(d.length+1))*1<=10 ^ (i+(d.length+1))*c:=Nat.mul_le_mul_left _ j;omega
def MulOR.done{c:List Nat}(h:MulOR xs c L xs.length):dval L=dval xs*dval c:=by rw[h.val,List.take_length]
set_option maxRecDepth 100000 in
theorem Yn(s t:ByteArray)(w:World)(hs:s.size<=maxLen)(ht:t.size<=maxLen):
  Calls prog 148 #[.string s,.string t] w (PairEnd (mulF s t) w):=by
 have c1:=λw=>Cq s w hs;have c2:=λw=>Cq t w ht;clear hs ht;cases G:vld s with
 |false =>
  have Y:mulF s t=(str [],1):=by unfold mulF;rw[G];rfl
  rw[Y];unfold vld at G;rw[G]at c1;clear Y G c2;have C1:=qh c1;clear c1
  go_enter func148,ntmps148
  go_wp2_with fail
  refine(C1.o _).mono ?_;rintro e w'⟨rfl,rfl⟩;go_wp2;go_ret2;exact⟨rfl,blr⟩
 |true =>
  cases I:vld t with
  |false =>
   have Y:mulF s t=(str [],1):=by unfold mulF;rw[G,I];rfl
   rw[Y];unfold vld at G I;rw[G]at c1;rw[I]at c2;clear Y G I;have C1:=qh c1;clear c1;have C2:=qh c2;clear c2
   go_enter func148,ntmps148
   go_wp2_with fail
   refine(C1.o _).mono ?_;rintro e w'⟨rfl,rfl⟩
   go_wp2_with fail
   refine(C2.o _).mono ?_;rintro e w'⟨rfl,rfl⟩;go_wp2;go_ret2;exact⟨rfl,blr⟩
  |true =>
   rw[show Aq (bts s)=true from G]at c1;rw[show Aq (bts t)=true from I]at c2;have C1:=qh c1;clear c1;have C2:=qh c2;clear c2;have H1:=qh G;clear G;replace I:=qh I;have Y:mulF s t=limS (val s*val t):=by unfold mulF;rw[H1.o,I.o];rfl
   rw[Y];clear Y;have d1:=λw=>Ei s w (by have:=BL H1.o;omega) (Bf H1.o).2.2.2;replace d1:=qh d1;have d2:=λw=>Ei t w (by have:=BL I.o;omega) (Bf I.o).2.2.2;replace d2:=qh d2;have o1:=Cx (Bf H1.o).2.2.2;have o2:=Cx (Bf I.o).2.2.2;have d8:=(BL H1.o).2;have e0:=(BL I.o).2;have n1:=Ci<|bts s;have n2:=Ci<|bts t;rw[Ap]at n1 n2;obtain⟨j,U⟩:=exq<|digL (bts s);obtain⟨g,W⟩:=exq<|digL (bts t);rw[<-U]at o1 n1;rw[<-W]at o2 n2;have f8:j.length<=1000:=by omega
   have f9:g.length<=1000:=by omega
   replace o1:=qh o1;replace o2:=qh o2;replace U:=qh U;replace W:=qh W;clear d8 e0 n1 n2
   go_enter func148,ntmps148
   go_wp2_with fail
   refine(C1.o _).mono ?_;rintro e w'⟨rfl,rfl⟩
   go_wp2_with fail
   refine(C2.o _).mono ?_;rintro e w'⟨rfl,rfl⟩
   go_wp2_with fail
   refine(d1.o w).mono ?_;rintro e w1⟨v1,rfl,O,S⟩;rw[<-U.o]at O;obtain⟨ax,cx,rfl⟩:=O.shape;replace O:=qh O;replace S:=qh S;have e2:=S.o.size
   go_wp2_with fail
   refine(d2.o w1).mono ?_;rintro e R⟨v2,rfl,P,a3⟩;rw[<-W.o]at P;obtain⟨ay,cy,rfl⟩:=P.shape;replace P:=qh P;have H:=S.o.trans<|a3.mono e2;have b1:=O.o.sl.below a3 nlr;replace H:=qh H;clear a3;have g6:=H.o.size;replace b1:=qh b1;have b2:=P.o.sl;replace b2:=qh b2;obtain⟨i0,e3,e4,e5,e6⟩:=info_parts Hn;obtain⟨wm,c7,d,a7⟩:=run_make_full R w.heap.size 25 3 i0 (.int .i64 0) 1 underlying25 e3 e4 e5 .i64 .i64 (j.length+g.length+1) (by rw[e6];omega) (by unfold maxLen;omega) (by omega);rw[show ((j.length+g.length+1:Nat):Int)=(j.length:Int)+(g.length:Int)+1 by omega]at c7;have K:Below R.heap.size R wm:=blr.grown a7 nlr (by simp);have a5:Below w.heap.size w wm:=H.o.trans<|blr.grown a7 (by omega) (by simp);have a1:Own wm w.heap.size 3 .i64 (.slice (some (Ad R.heap.size 0)) (j.length+g.length+1) (j.length+g.length+1)) (List.replicate (j.length+g.length+1) 0):=by
    unfold Own;rw[Ly,List.length_replicate];have:=d;rw[Nat.mul_one,show (Value.int .i64 0).cells=#[Value.int .i64 0] from rfl,toList_madeCells_one]at this;exact this
   replace a5:=qh a5;replace K:=qh K;replace a1:=qh a1;clear d a7;obtain⟨f2,f3,bx,ox,c8,a2,e7,b8,T,o⟩:=b1.o.open;rw[Value.slice.injEq]at c8;obtain⟨rfl,_,rfl⟩:=c8;unfold maxLen at b8;replace o:=qh o;replace a2:=qh a2;have d3:=qh T;clear T
   go_wp2_with fail
   clear c7
   go_loopw [9] (λi wr=>∃(k:Nat) (L:List Nat),k<=j.length/\i=.int .i64 (k:Int)/\MulOR j g L k/\Own wr w.heap.size 3 .i64 (.slice (some (Ad R.heap.size 0)) (j.length+g.length+1) (j.length+g.length+1)) L/\Below w.heap.size w wr/\Below R.heap.size R wr) (λi _=>j.length-(intOf i).toNat)
   case atStart=>exact⟨0,_,Nat.zero_le _,rfl,MulOR.start j g,a1.o,a5.o,K.o⟩
   obtain⟨i,L,f5,rfl,A,d,N,u⟩:=hrel;have b5:=qh A;clear A;have HO:=qh d;clear d;have Z:=qh N;clear N;have b4:=qh u;clear u;obtain⟨wo,rfl⟩:∃wo:World,wo=wr:=⟨_,rfl⟩;by_cases a9:i<j.length
   ·obtain rfl:=a2.o (by omega);have T:=d3.o (by omega)
    go_wp2_with fail
    go_loopw [10,11] (λc q wr=>∃(k C:Nat) (L:List Nat),k<=g.length+1/\q=.int .i64 (k:Int)/\c=.int .i64 (C:Int)/\MulIR j g L i k C/\Own wr w.heap.size 3 .i64 (.slice (some (Ad R.heap.size 0)) (j.length+g.length+1) (j.length+g.length+1)) L/\Below w.heap.size w wr/\Below R.heap.size R wr) (λ_ q _=>g.length+1-(intOf q).toNat)
    case atStart=>exact⟨0,0,L,Nat.zero_le _,rfl,rfl,b5.o.inner,HO.o,Z.o,b4.o⟩
    obtain⟨k,C,L',f7,rfl,rfl,D,d,N,u⟩:=hrel;replace D:=qh D;have J:=qh d;clear d;have X:=qh N;clear N;have m:=qh u;clear u;by_cases f1:k<=g.length
    ·have z:=D.o.len;have cl:=J.o.cell z (i+k) (by omega);have fl:=J.o.free z (i+k);replace z:=qh z;have c1:=(m.o.cell (p:=(Ad bx (ox+i))) T).trans (o.o i a9);obtain⟨x,hx⟩:=exq<|nth j i;obtain⟨y,hy⟩:=exq<|nth g k;obtain⟨l,hl⟩:=exq<|nth L' (i+k);rw[<-hl]at cl;rw[<-hx]at c1;have E:=D.o.step o1.o.1 o2.o.1 a9 (by omega) hl hx hy;replace E:=qh E;have d9:(x:Int)<=9:=by have:=o1.o.1 i;rw[<-hx]at this;omega
     have e1:(y:Int)<=9:=by have:=o2.o.1 k;rw[<-hy]at this;omega
     have d5:(l:Int)<=9:=by have:=D.o.dig<|i+k;rw[<-hl]at this;omega
     have d4:(C:Int)<=9:=by have:=D.o.carry;omega
     have B:((x:Int)*(y:Int))=((x*y:Nat):Int):=by simp
     have d6:x*y<=9*9:=Nat.mul_le_mul (by omega) (by omega);have g1:(x:Int)*(y:Int)<=81:=by rw[B];omega
     have g0:0<=(x:Int)*(y:Int):=by rw[B];omega
     have a6:(((l:Int)+(x:Int)*(y:Int)+(C:Int)) % 10)=(((l+x*y+C) % 10:Nat):Int):=by rw[B];omega
     have b7:(((l:Int)+(x:Int)*(y:Int)+(C:Int)) / 10)=(((l+x*y+C) / 10:Nat):Int):=by rw[B];omega
     replace a6:=qh a6;have b0:wrap64 (((l:Int)+(x:Int)*(y:Int)+(C:Int)).tdiv 10)=(((l+x*y+C) / 10:Nat):Int):=by
      rw[Int.tdiv_eq_ediv_of_nonneg (by omega),b7,<-IntWalk.i64_left,IntKind.wrap_i64];omega
     replace b0:=qh b0;clear b7 B d6;replace hx:=qh hx;replace hy:=qh hy;replace hl:=qh hl;have b3:=b2.o.below m.o nlr;replace b3:=qh b3;have c9:(i:Int)<=1000:=by omega
     have d0:(k:Int)<=1000:=by omega
     have g2:IntKind.i64.wrap ((i:Int)+(k:Int))=(i:Int)+(k:Int):=by rw[IntKind.wrap_i64];omega
     have g3:IntKind.i64.wrap ((x:Int)*(y:Int))=(x:Int)*(y:Int):=by rw[IntKind.wrap_i64];omega
     have g4:IntKind.i64.wrap ((l:Int)+(x:Int)*(y:Int))=(l:Int)+(x:Int)*(y:Int):=by rw[IntKind.wrap_i64];omega
     have g5:IntKind.i64.wrap ((l:Int)+(x:Int)*(y:Int)+(C:Int))=(l:Int)+(x:Int)*(y:Int)+(C:Int):=by rw[IntKind.wrap_i64];omega
     clear d9 e1 d5 d4;have e8:0<=(i:Int)+(k:Int):=by omega
     have e9:(i:Int)+(k:Int)<(j.length:Int)+(g.length:Int)+1:=by omega
     have f0:((i:Int)+(k:Int)).toNat=i+k:=by omega
     go_wp2_with fail
     go_quiet ((go_at_call 175;exact Calls.quiet_of_same ((EA _ g k _ (b3.o.below (below_drewN (Below.refl _ wr) _) nlr) (by omega)).mono λe w' h=>⟨by rw[h.1,<-hy.o],h.2.symm⟩)))
     go_wp2;go_roundw
     case rel =>
      have ho:=(J.o.kept (below_drewN (Below.refl _ wr) nq) nlr).set z.o (i+k) ((l+x*y+C) % 10);exact⟨k+1,(l+x*y+C) / 10,L'.set (i+k) ((l+x*y+C) % 10),by omega,by go_num,by rw[b0.o],E.o,by rw[a6.o];exact ho,(below_drewN X.o nq).setCell J.o.base.1 _,(below_drewN m.o nq).setCell nlr _⟩
     simp[intOf];omega
    have a8:k=g.length+1:=by omega
    replace a8:=qh a8;have f4:g.length<k:=by omega
    go_wp2;go_roundw
    case rel =>
     have G:=D.o;rw[a8.o]at G;exact⟨i+1,L',by omega,by go_num,G.done o1.o.1 o2.o.1 a9,J.o,X.o,m.o⟩
    simp[intOf];omega
   have b9:i=j.length:=by omega
   have A:=b5.o;rw[b9]at A;clear b9;have Q:=A.done;rw[o1.o.2,o2.o.2]at Q;have F:dval L=val s*val t:=Q;clear Q;replace F:=qh F;have d7:=Z.o.size;have q3:=Ir (.slice (some (Ad R.heap.size 0)) (j.length+g.length+1) (j.length+g.length+1)) L wo (by have:=HO.o.sl;exact this) A.dig (by rw[A.len];omega);rw[F.o]at q3;replace q3:=qh q3;clear A
   go_wp2_with fail
   refine q3.o.mono ?_;rintro e w4⟨rfl,b6⟩;have a4:=Z.o.trans<|b6.mono d7;replace a4:=qh a4;clear b6
   go_wp2_with fail
   refine(PE (val s*val t) w4).mono ?_;rintro e w5⟨rfl,rfl⟩;go_wp2;go_ret2;exact⟨rfl,a4.o⟩
variable{d j k m n:Nat}
structure DivI(l:List UInt8)(n:Nat)(qb:List UInt8)(rn i:Nat):Prop where
 len:qb.length=i
 dig:dgts qb=true
 lt:rn<n
 val:num qb*n+rn=num (l.take i)
theorem DivI.start(l:List UInt8)(h:n≠0):DivI l n [] 0 0:=⟨rfl,rfl,by omega,by simp[num]⟩
def TN(h:j<10):dgt (byteOf j)=true:=by simp only[dgt,byteOf_toNat h];simp;omega
def DivI.step{l:List UInt8}{g:List UInt8}{i:Nat}{c:UInt8}(h:DivI l n g k i)(p:l.take (i+1)=l.take i++[c])(o:m<n)(d:j<10)(s:m+j*n=10*k+(c.toNat-48)):
  DivI l n (g++[byteOf j]) m (i+1):=by
 refine⟨by rw[List.length_append,h.len];rfl,by rw[Ea,h.dig,TN d];rfl,o,?_⟩;rw[Dt,p,Dt,<-h.val,byteOf_toNat d,show 48+j-48=j by omega,Nat.add_mul,Nat.mul_add,Nat.mul_assoc];omega
def DivI.j_lt{c:Nat}(k:c<n)(g:d<10)(i:m+j*n=10*c+d):j<10:=by
 rcases Nat.lt_or_ge j 10 with h|h
 ·exact h
 have:10*n<=j*n:=Nat.mul_le_mul_right _ h;omega
def UW(s:ByteArray)(i:Nat)(h:i<s.size):s.extract i (i+1)=str [s[i]]:=Dm (by
 rw[AP];simp only[bts,ByteArray.data_extract,Array.toList_extract,List.extract_eq_take_drop];rw[show i+1-i=1 by omega,List.drop_eq_getElem_cons (by rw[show s.data.toList.length=s.size from Ap s];exact h),List.take_succ_cons,List.take_zero];rfl)
def XG{c:UInt8}(h:dgt c=true):str [c]=str (dec (10*0+(c.toNat-48))):=by
 simp only[dgt,Bool.and_eq_true,decide_eq_true_eq]at h;rw[BD (by omega),IJ (c:=c) (by omega)]
theorem XH{c:UInt8}(h:dgt c=true)(g:d≠0):str (dec d)++str [c]=str (dec (10*d+(c.toNat-48))):=by
 simp only[dgt,Bool.and_eq_true,decide_eq_true_eq]at h;rw[Ev (n:=10*d+(c.toNat-48)) (by omega),show (10*d+(c.toNat-48)) / 10=d by omega,IJ (c:=c) (by omega)];exact Dm (by simp[bts,str])
def TJ(hn:(dec n).length<=k)(g:m<n)(c:d<10):(dec (10*m+d)).length<=k+1:=by
 have:=(Cg.1 hn).1;exact Cg.2 ⟨by rw[Nat.pow_succ];omega,by omega⟩
def Jr(h:m<=n)(hn:(dec n).length<=k):(dec m).length<=k:=by
 have:=Cg.1 hn;exact Cg.2 ⟨by omega,this.2⟩
def TL(h:n<=m):(dec n).length<=(dec m).length:=Jr h nlr
def strN(v:Value):Nat:=match v with | .string s=>val s|_=>0
theorem Qu(n:Nat):strN (.string (str (dec n)))=n:=AB n
structure Strip(l:List UInt8)(k:Nat):Prop where
 lt:k+1<=l.length
 val:num (l.drop k)=num l
def Strip.step{l:List UInt8}(h:Strip l k)(g:k+1<l.length)(d:l[k].toNat=48):Strip l (k+1):=by
 refine⟨by omega,?_⟩;rw[<-h.val,List.drop_eq_getElem_cons (i:=k) (by omega)];generalize l.drop (k+1)=x;show num x=List.foldl (λn c=>10*n+(c.toNat-48)) (10*0+(l[k].toNat-48)) x;rw[d];rfl
def Qw{l:List UInt8}(h:Strip l k)(c:dgts l=true)(m:l.length<=1000)(j:k+1=l.length\/l[k]'(by have:=h.lt;omega)≠48):l.drop k=dec (num l):=by
 have d:=h.lt;rw[<-h.val];refine(BZ (IM (by rw[List.length_drop];omega) (by rw[List.length_drop];omega) ?_ ?_)).symm
 ·rcases j with h|h
  ·left;rw[List.length_drop];omega
  right;rw[List.drop_eq_getElem_cons (i:=k) (by omega),List.headD_cons];exact h
 unfold dgts at *;rw[List.all_eq_true]at *;intro x g;exact c x (List.mem_of_mem_drop g)
set_option maxRecDepth 100000 in
theorem Pq(s t:ByteArray)(w:World)(hs:s.size<=maxLen)(ht:t.size<=maxLen):
  Calls prog 150 #[.string s,.string t] w (TripEnd (divF s t) w):=by
 have c1:=λw=>Cq s w hs;have c2:=λw=>Cq t w ht;clear hs ht;cases G:vld s with
 |false =>
  have hr:divF s t=(str [],str [],1):=by unfold divF;rw[G];rfl
  rw[hr];unfold vld at G;rw[G]at c1;clear hr G c2;have C1:=qh c1;clear c1
  go_enter func150,ntmps150
  go_wp2_with fail
  refine(C1.o _).mono ?_;rintro e w'⟨rfl,rfl⟩;go_wp2
  go_ret3
  exact⟨rfl,blr⟩
 |true =>
  cases H:vld t with
  |false =>
   have hr:divF s t=(str [],str [],1):=by unfold divF;rw[G,H];rfl
   rw[hr];unfold vld at G H;rw[G]at c1;rw[H]at c2;clear hr G H;have C1:=qh c1;clear c1;have C2:=qh c2;clear c2
   go_enter func150,ntmps150
   go_wp2_with fail
   refine(C1.o _).mono ?_;rintro e w'⟨rfl,rfl⟩
   go_wp2_with fail
   refine(C2.o _).mono ?_;rintro e w'⟨rfl,rfl⟩;go_wp2
   go_ret3
   exact⟨rfl,blr⟩
  |true =>
   rw[show Aq (bts s)=true from G]at c1;rw[show Aq (bts t)=true from H]at c2;have C1:=qh c1;clear c1;have C2:=qh c2;clear c2;replace G:=qh G;replace H:=qh H;have d2:=λw=>Ei t w (by have:=BL H.o;omega) (Bf H.o).2.2.2;replace d2:=qh d2;have d8:=(EH H.o);replace d8:=qh d8;have c9:(dec (val t)).length<=1000:=FV H.o;replace c9:=qh c9;have h8:(s.size:Int)<=1000:=by have:=(BL G.o).2;omega
   have l0:(1:Int)<=(s.size:Int):=by have:=(BL G.o).1;omega
   by_cases hz:val t=0
   ·have hr:divF s t=(str [],str [],4):=by unfold divF;rw[G.o,H.o,ifp hz];rfl
    rw[hr];clear hr;have i2:=NI H.o hz;clear hz
    go_enter func150,ntmps150
    go_wp2_with fail
    refine(C1.o _).mono ?_;rintro e w'⟨rfl,rfl⟩
    go_wp2_with fail
    refine(C2.o _).mono ?_;rintro e w'⟨rfl,rfl⟩
    go_wp2_with fail
    go_ret3
    exact⟨rfl,blr⟩
   have hr:divF s t=(str (dec (val s / val t)),str (dec (val s % val t)),0):=by unfold divF;rw[G.o,H.o,ifn hz];rfl
   rw[hr];clear hr;have i2:(t.toList==[48])=false:=beq_eq_false_iff_ne.2<|HA hz;replace hz:=qh hz;obtain⟨i0,hi,k0,i3,i4⟩:=info_parts ND
   go_enter func150,ntmps150
   go_wp2_with fail
   refine(C1.o _).mono ?_;rintro e w'⟨rfl,rfl⟩
   go_wp2_with fail
   refine(C2.o _).mono ?_;rintro e w'⟨rfl,rfl⟩
   go_wp2_with fail
   clear i2
   go_loopw [7,8,9] (λv r i wr=>∃(k rn:Nat) (z:List UInt8),k<=s.size/\i=.int .i64 (k:Int)/\r=.string (str (dec rn))/\DivI (bts s) (val t) z rn k/\Own wr w.heap.size 5 .u8 v (z.map (·.toNat))/\Below w.heap.size w wr) (λ_ _ i _=>s.size-(intOf i).toNat)
   case atStart=>exact⟨0,0,[],Nat.zero_le _,rfl,by rw[BD (by omega)];rfl,DivI.start _ hz.o,Own.nil _ _ _ _,blr⟩
   obtain⟨k,rn,z,hk,rfl,rfl,h,l,hb⟩:=hrel;have o:(z.map (·.toNat)).length=k:=by rw[List.length_map];exact h.len
   replace h:=qh h;obtain⟨ad,b9,rfl⟩:=l.shape;rw[o]at l ⊢;replace l:=qh l;have HB:=qh hb;clear hb;have l6:=HB.o.size;replace o:=qh o;obtain⟨wo,rfl⟩:∃wo:World,wo=wr:=⟨_,rfl⟩;by_cases d1:k<s.size
   ·have J:dgt s[k]=true:=by
     have:=Jt (Bf G.o).2.2.2 k (by rw[Ap];exact d1);rw[Jk s k d1]at this;simp only[dgt];simp;exact this
    have Z:=UW s k d1;have d7:=FA s k d1;obtain⟨c,Y⟩:=exq<|s[k];rw[<-Y]at J Z d7;replace J:=qh J;replace Z:=qh Z;replace d7:=qh d7;clear Y;obtain⟨m0,K⟩:∃m0,m0=10*rn+(c.toNat-48):=⟨_,rfl⟩;have f8:(dec m0).length<=1001:=by
     have:=J.o;simp only[dgt,Bool.and_eq_true,decide_eq_true_eq]at this;rw[K];exact TJ c9.o h.o.lt (by omega)
    replace f8:=qh f8;replace K:=qh K;by_cases a3:rn=0;have h7:(str (dec rn)).toList=[48]:=by rw[a3,Lib.toList_data,BD (by omega)];rfl
    have F:s.extract k (k+1)=str (dec m0):=by rw[Z.o,K.o,a3];exact XG J.o
    have e1:=qh F;clear F a3
    rotate_left
    have h7:((str (dec rn)).toList==[48])=false:=beq_eq_false_iff_ne.2 (HA (by rw[AB];exact a3));have F:str (dec rn)++s.extract k (k+1)=str (dec m0):=by rw[Z.o,K.o];exact XH J.o a3
    have e1:=qh F;clear F a3;have l5:((str (dec rn)).size:Int)<=8388608:=by rw[AI];have:=Jr (Nat.le_of_lt h.o.lt) c9.o;omega
    have l4:((s.extract k (k+1)).size:Int)<=8388608:=by rw[Z.o,AI];simp
    all_goals
     go_wp2_with fail
     rw[e1.o];clear h7
     go_loopw [8,10] (λr d wq=>∃(m j:Nat),r=.string (str (dec m))/\d=.int .u8 (48+(j:Int))/\m+j*val t=m0/\Below w.heap.size w wq/\Below wo.heap.size wo wq) (λr _ _=>strN r)
     case atStart=>exact⟨m0,0,rfl,by go_num,by omega,HB.o,blr⟩
     obtain⟨m,j,rfl,rfl,a2,a9,C⟩:=hrel;replace a2:=qh a2;replace a9:=qh a9;replace C:=qh C;have f1:=a9.o.size;have b7:=C.o.size;have j4:(dec m).length<=1001:=Jr (by have:=a2.o;omega) f8.o;have h3:c.toNat-48<10:=by have:=J.o;simp only[dgt,Bool.and_eq_true,decide_eq_true_eq]at this;omega
     have W:=DivI.j_lt h.o.lt h3 (a2.o.trans K.o);clear h3;have l1:(j:Int)<=9:=by omega
     replace W:=qh W;have Y:=Kz m (val t) wr (by omega);rw[d8.o]at Y;unfold CmpEnd at Y;by_cases u:m<val t
     ·rw[Cw u]at Y;have HC:=qh Y;clear Y;have g4:=qh u;clear u
      go_wp2_with fail
      refine HC.o.mono ?_;rintro e w3⟨rfl,I⟩;have A:=a9.o.trans<|I.mono f1;have B:=C.o.trans<|I.mono b7;have d6:=l.o.kept B nlr;have b5:w3.ownsRow w.heap.size 5 1 (.slice ad k b9) k (vals .u8 (z.map (·.toNat))):=by have:=d6.raw;rwa [o.o]at this
      replace b5:=qh b5;replace d6:=qh d6;have a8:=qh A;clear A B I;have h9:=a8.o.size;have f5:(48+(j:Int))=((48+j:Nat):Int):=by omega
      replace f5:=qh f5;have f9:(z++[byteOf j]).map (·.toNat)=z.map (·.toNat)++[48+j]:=by rw[List.map_append];simp[byteOf_toNat W.o]
      replace f9:=qh f9
      go_wp2_with (at_builtin;refine wpList_append_own _ rfl (.tmp 54) (.tmp 56) 175 rfl w.heap.size 5 i0 (.int .u8 0) 1 1 underlying175 hi k0 i3 i4 rfl (by decide) _ _ _ rfl (World.ownsRow.alloc b5.o _) (Ad w3.heap.size 0) 1 1 [.int .u8 (48+(j:Int))] rfl rfl (cell_one_new _ _ _) (one_cell _ _) (by unfold maxLen;omega) (by omega) (by simp;omega) ?_;intro v' w1 L U _)
      rw[f5.o]at L;obtain⟨ho,hb⟩:=d6.o.appended a8.o h9 (by rw[o.o];exact L) U;clear L U;rw[<-f9.o]at ho;replace ho:=qh ho;have i6:=qh hb;clear hb
      try go_wp2
      go_roundw
      case rel=>exact⟨k+1,m,z++[byteOf j],by omega,by go_num,rfl,h.o.step d7.o g4.o W.o (a2.o.trans K.o),ho.o,i6.o⟩
      simp[intOf];omega
     have j0:(0:Int)<=cmpN m (val t):=by unfold cmpN;rw[ifn u];split<;>decide
     obtain⟨cc,h0⟩:=exq<|cmpN m (val t);rw[<-h0]at j0 Y;clear h0;have HC:=qh Y;clear Y;have a1:val t<=m:=Nat.le_of_not_lt u;replace a1:=qh a1;clear u;have b0:(digL (bts t)).length<=(digL (dec m)).length:=by
      rw[Ci,Ci,Ap,<-d8.o,AI];exact TL a1.o
     have D:dval (digL (dec m))=m:=by rw[(Cx (Do m)).2,CL]
     have E:dval (digL (bts t))=val t:=(Cx (Bf H.o).2.2.2).2;have R:=(Cx (Do m)).1;have S:=(Cx (Bf H.o).2.2.2).1;have j5:(digL (dec m)).length<=1001:=by rw[Ci];exact j4
     have D1:=qh<|Ei (str (dec m));obtain⟨xs,d9⟩:=exq<|digL (dec m);obtain⟨ys,e0⟩:=exq<|digL (bts t);rw[<-d9]at b0 D R j5;rw[<-e0]at b0 E S;replace d9:=qh d9;replace e0:=qh e0;replace b0:=qh b0;replace D:=qh D;replace E:=qh E;replace R:=qh R;replace S:=qh S
     go_wp2_with fail
     refine HC.o.mono ?_;rintro e w3⟨rfl,I⟩;have A:=a9.o.trans<|I.mono f1;have B:=C.o.trans<|I.mono b7;have a8:=qh A;have g6:=qh B;clear A B I;have k1:=a8.o.size;have j6:=g6.o.size
     go_wp2_with fail
     have q4:=D1.o w3 (by rw[AI];omega) (by rw[AP];exact Do m);rw[AP,<-d9.o]at q4;refine q4.mono ?_;clear q4;rintro e w4⟨v4,rfl,d3,f2⟩;obtain⟨a4,c4,rfl⟩:=d3.shape;replace d3:=qh d3;have e2:=a8.o.trans<|f2.mono k1;have e3:=g6.o.trans<|f2.mono j6;have g1:=qh e2;have g7:=qh e3;clear e2 e3 f2;have k2:=g1.o.size;have j7:=g7.o.size
     go_wp2_with fail
     have q5:=d2.o w4;rw[<-e0.o]at q5;refine q5.mono ?_;clear q5;rintro e w5⟨v5,rfl,d4,c8⟩;obtain⟨a5,c5,rfl⟩:=d4.shape;replace d4:=qh d4;have g0:=d3.o.sl.below c8 nlr;replace g0:=qh g0;have e4:=g1.o.trans<|c8.mono k2;have e5:=g7.o.trans<|c8.mono j7;have g2:=qh e4;have g8:=qh e5;clear e4 e5 c8;have k3:=g2.o.size;have j8:=g8.o.size
     go_wp2_with fail
     refine(PD _ _ xs ys w5 g0.o d4.o.sl R.o S.o b0.o (by rw[D.o,E.o];exact a1.o) (by omega)).mono ?_;rintro e w6⟨ls,X,b1,h6,v6,rfl,d5,f3⟩;obtain⟨a6,c6,rfl⟩:=d5.shape;rw[D.o,E.o]at X;replace X:=qh X;replace b1:=qh b1;have k9:ls.length<=1001:=by omega
     clear h6;replace d5:=qh d5;have e6:=g2.o.trans<|f3.mono k3;have e7:=g8.o.trans<|f3.mono j8;have g3:=qh e6;have g9:=qh e7;clear e6 e7 f3;have k4:=g3.o.size;have j9:=g9.o.size
     go_wp2_with fail
     have q7:=Ir _ ls w6 d5.o.sl b1.o (by omega);rw[X.o]at q7;refine q7.mono ?_;clear q7;rintro e w7⟨rfl,f4⟩;have e8:=g3.o.trans<|f4.mono k4;have e9:=g9.o.trans<|f4.mono j9;have i7:=qh e8;have i8:=qh e9;clear e8 e9 f4;go_wp2;go_roundw
     case rel=>exact⟨m-val t,j+1,rfl,by go_num,by rw[Nat.add_mul,Nat.one_mul];have:=a2.o;have:=a1.o;omega,i7.o,i8.o⟩
     rw[Qu,Qu];have:=a1.o;have:=hz.o;omega
   have h5:k=s.size:=by omega
   obtain⟨g,k5,hv,_,_,j3,_⟩:=l.o.some (by rw[o.o];omega);rw[o.o]at hv j3;simp only[Value.slice.injEq,true_and]at hv;obtain⟨rfl,rfl⟩:=hv;have p:=h.o.len;replace p:=qh p;have b8:num z*val t+rn=val s:=by
    have:=h.o.val;rw[h5,List.take_of_length_le (by rw[Ap];omega)]at this;exact this
   have b6:rn=val s % val t:=by
    rw[<-b8,Nat.mul_comm,Nat.mul_add_mod,Nat.mod_eq_of_lt h.o.lt]
   have b4:num z=val s / val t:=by
    rw[<-b8,Nat.mul_comm,Nat.mul_add_div (Nat.pos_of_ne_zero hz.o),Nat.div_eq_of_lt h.o.lt,Nat.add_zero]
   replace b6:=qh b6;replace b4:=qh b4;clear b8;have l3:1<=k:=by omega
   have d0:k<=1000:=by omega
   have O:=qh d0;clear h5
   go_wp2_with fail
   go_loop [11] (λi=>∃j:Nat,i=.int .i64 (j:Int)/\Strip z j) (λi=>k-(intOf i).toNat)
   case atStart=>exact⟨0,rfl,⟨by rw[p.o];omega,by rw[List.drop_zero]⟩⟩
   obtain⟨j,rfl,a7⟩:=hrel;have f7:=a7.lt;rw[p.o]at f7;have k7:j<k:=by omega
   have l2:j<b9:=by omega
   have k6:¬b9=j:=by omega
   replace a7:=qh a7;have i9:=l.o.cell o.o j (by omega);have b3:nth (z.map (·.toNat)) j=(z[j]'(by rw[p.o];omega)).toNat:=by rw[Db _ _ (by rw[o.o];omega),List.getElem_map]
   obtain⟨d,hd⟩:=exq<|nth (z.map (·.toNat)) j;rw[<-hd]at i9 b3;replace b3:=qh b3;clear hd;by_cases b2:j+1<k;have j2:decide ((j:Int)<(k:Int)-1)=true:=decide_eq_true (by omega);have g5:=qh b2;clear b2 f7;by_cases c7:d=48
   ·have hg:((d:Int)==48)=true:=by rw[beq_iff_eq];omega
    have i5:=qh c7;clear c7;have N:=a7.o.step (by rw[p.o];exact g5.o) (by rw[<-b3.o];exact i5.o);replace N:=qh N;go_wp2
    go_round
    case rel=>exact⟨j+1,by go_num,N.o⟩
    simp[intOf];omega
   have hg:((d:Int)==48)=false:=by rw[beq_eq_false_iff_ne];omega
   have T:=Qw a7.o h.o.dig (by rw[p.o];exact O.o) (.inr (by intro e;apply c7;rw[b3.o,e];rfl));clear c7
   rotate_left
   have j2:decide ((j:Int)<(k:Int)-1)=false:=decide_eq_false (by omega);have T:=Qw a7.o h.o.dig (by rw[p.o];exact O.o) (.inl (by rw[p.o];omega));clear b2 f7
   all_goals
    rw[b4.o]at T;have Q:∀(i:Nat) (hi:i<(z.drop j).length),wo.cell? (((Ad g j):Addr).add i)=some (.int .u8 (((z.drop j)[i].toNat:Nat):Int)):=λi hi=>by
     have h4:j+i<k:=by rw[List.length_drop,p.o]at hi;omega
     have Y:=l.o.cell o.o (j+i) h4;have e:((Ad g j):Addr).add i=(Ad g (j+i)):=by unfold Addr.add;split<;>simp_all
     rw[e,Y,Db _ _ (by rw[o.o];exact h4),List.getElem_map,List.getElem_drop]
    have j1:=run_convert_bytes_back (P:=prog) wo 175 9 5 (Ad g j) (b9-j) (z.drop j) underlying175 underlying5 underlying9 Q;have f0:(⟨(z.drop j).toArray⟩:ByteArray)=str (dec (val s / val t)):=by rw[T];rfl
    rw[f0,List.length_drop,p.o]at j1;clear Q f0 T
    go_wp2_with fail
    all_goals (rw[<-b6.o];go_ret3;exact⟨rfl,HB.o⟩)
set_option maxRecDepth 100000 in
theorem Yj(s t:ByteArray)(w:World)(F:s.size<=maxLen)(G:t.size<=maxLen):
  Calls prog 144 #[.string s,.string t] w (PairEnd (gcdF s t) w):=by
 have c1:=λw=>Cq s w F;have c2:=λw=>Cq t w G;clear F G;cases c:vld s with
 |false =>
  have l:gcdF s t=(str [],1):=by unfold gcdF;rw[c];rfl
  rw[l];unfold vld at c;rw[c]at c1;clear l c c2;have u:=qh c1;clear c1
  go_enter func144,ntmps144
  go_wp2_with fail
  refine(u.o _).mono ?_;rintro e B⟨rfl,rfl⟩;go_wp2;go_ret2;exact⟨rfl,blr⟩
 |true =>
  cases j:vld t with
  |false =>
   have l:gcdF s t=(str [],1):=by unfold gcdF;rw[c,j];rfl
   rw[l];unfold vld at c j;rw[c]at c1;rw[j]at c2;clear l c j;have u:=qh c1;clear c1;have C:=qh c2;clear c2
   go_enter func144,ntmps144
   go_wp2_with fail
   refine(u.o _).mono ?_;rintro e B⟨rfl,rfl⟩
   go_wp2_with fail
   refine(C.o _).mono ?_;rintro e B⟨rfl,rfl⟩;go_wp2;go_ret2;exact⟨rfl,blr⟩
  |true =>
   rw[show Aq (bts s)=true from c]at c1;rw[show Aq (bts t)=true from j]at c2;have u:=qh c1;clear c1;have C:=qh c2;clear c2;replace c:=qh c;replace j:=qh j;have l:gcdF s t=(str (dec (Nat.gcd (val s) (val t))),0):=by unfold gcdF;rw[c.o,j.o];rfl
   rw[l];clear l
   go_enter func144,ntmps144
   go_wp2_with fail
   refine(u.o _).mono ?_;rintro e B⟨rfl,rfl⟩
   go_wp2_with fail
   refine(C.o _).mono ?_;rintro e B⟨rfl,rfl⟩
   go_wp2_with fail
   go_loopg [0,1] (val t) (λg I J wr=>∃p:Nat,I=.string (str (dec p))/\J=.string (str (dec g))/\Nat.gcd p g=Nat.gcd (val s) (val t)/\fits p/\fits g/\Below w.heap.size w wr)
   case atStart=>exact⟨val s,by rw[EH c.o],by rw[EH j.o],rfl,FV c.o,FV j.o,blr⟩
   obtain⟨p,rfl,rfl,A,h,i,hb⟩:=hrel;replace A:=qh A;replace h:=qh h;replace i:=qh i;replace hb:=qh hb;have E:=hb.o.size;by_cases k:gk=0
   ·have D:((str (dec gk)).toList==[48])=true:=by rw[beq_iff_eq,k,Lib.toList_data,BD (by omega)];rfl
    have H:((str (dec gk)).toList != [48])=false:=by unfold bne;rw[D];rfl
    have K:(str (dec gk)).toList=[48]:=by rw[k,Lib.toList_data,BD (by omega)];rfl
    have o:p=Nat.gcd (val s) (val t):=by rw[<-A.o,k,Nat.gcd_zero_right]
    replace o:=qh o;clear k;go_wp2;go_ret2;exact⟨Ip (by rw[o.o]) rfl,hb.o⟩
   have D:((str (dec gk)).toList==[48])=false:=beq_eq_false_iff_ne.2 (HA (by rw[AB];exact k));have H:((str (dec gk)).toList != [48])=true:=by unfold bne;rw[D];rfl
   have d:=Pq (str (dec p)) (str (dec gk)) wr (AW h.o) (AW i.o);unfold TripEnd at d;rw[Jv (AY h.o) (AY i.o) (by rw[AB];exact k),AB,AB]at d;replace d:=qh d;replace k:=qh k
   go_wp2_with fail
   refine d.o.mono ?_;rintro e L⟨rfl,z⟩;have m:=hb.o.trans<|z.mono E;replace m:=qh m;clear z
   go_wp2_with fail
   go_roundg (p % gk)
   case measure=>exact Nat.mod_lt _ (Nat.pos_of_ne_zero k.o)
   case rel=>exact⟨gk,rfl,rfl,by rw[<-A.o,Nat.gcd_comm gk,<-Nat.gcd_rec,Nat.gcd_comm],i.o,Cj h.o (Nat.mod_le _ _),m.o⟩
def XJ(m n:Nat)(w:World)(c:fits m)(hn:fits n)(h:fits (m+n)):
  Calls prog 145 #[.string (str (dec m)),.string (str (dec n))] w (StrZ (str (dec (m+n))) w):=by
 have:=XI (str (dec m)) (str (dec n)) w (AW c) (AW hn);rw[LP (AY c) (AY hn) (by rw[AB,AB];exact h),AB,AB]at this;exact this
def PS(m n:Nat)(w:World)(c:fits m)(hn:fits n)(h:n<=m):
  Calls prog 147 #[.string (str (dec m)),.string (str (dec n))] w (StrZ (str (dec (m-n))) w):=by
 have:=Yz (str (dec m)) (str (dec n)) w (AW c) (AW hn);rw[Qy (AY c) (AY hn) (by rw[AB,AB];exact h),AB,AB]at this;exact this
def Yo(m n:Nat)(w:World)(c:fits m)(hn:fits n)(h:fits (m*n)):
  Calls prog 148 #[.string (str (dec m)),.string (str (dec n))] w (StrZ (str (dec (m*n))) w):=by
 have:=Yn (str (dec m)) (str (dec n)) w (AW c) (AW hn);rw[On (AY c) (AY hn) (by rw[AB,AB];exact h),AB,AB]at this;exact this
def PC(m n:Nat)(w:World)(c:fits m)(hn:fits n):
  Calls prog 144 #[.string (str (dec m)),.string (str (dec n))] w (StrZ (str (dec (Nat.gcd m n))) w):=by
 have:=Yj (str (dec m)) (str (dec n)) w (AW c) (AW hn);rw[NB (AY c) (AY hn),AB,AB]at this;exact this
def Pr(m n:Nat)(w:World)(c:fits m)(hn:fits n)(h:n≠0):
  Calls prog 150 #[.string (str (dec m)),.string (str (dec n))] w λe w'=>e=.returned (.tuple #[.string (str (dec (m / n))),.string (str (dec (m % n))),.int .i64 0])/\Below w.heap.size w w':=by
 have:=Pq (str (dec m)) (str (dec n)) w (AW c) (AW hn);rw[Jv (AY c) (AY hn) (by rw[AB];exact h),AB,AB]at this;exact this
def Pp(m n:Nat)(w:World)(c:fits m)(hn:fits n):
  Calls prog 146 #[.string (str (dec m)),.string (str (dec n))] w (IntEnd (cmpN m n) w):=by
 have:=XK (str (dec m)) (str (dec n)) w (AW c) (AW hn);unfold cmpF at this;rw[AY c,AY hn,AB,AB]at this;exact this
def DR(m n:Nat)(w:World)(d:fits m)(hn:fits n)(h:fits (m*n)):
  Calls prog 117 #[.string (str (dec m)),.string (str (dec n))] w (StrE (str (dec (m*n))) w):=by
 have c:=Yo m n w d hn h;replace c:=qh c;clear d hn h
 go_enter func117,ntmps117
 go_wp2_with fail
 refine nxa c.o λi g=>?_;go_wp2;go_ret;exact⟨rfl,g.o⟩
def Qp(p q:Bool)(m n:Nat)(w:World)(h:fits (m+n)):
  Calls prog 116 #[.bool p,.string (str (dec m)),.bool q,.string (str (dec n))] w λe w' =>
   e=.returned (.tuple #[.bool (sumF p m q n).1,.string (str (dec (sumF p m q n).2))])/\Below w.heap.size w w':=by
 have j:fits m:=Cj h (by omega);have k:fits n:=Cj h (by omega);by_cases d:p=q
 ·subst d;have l:sumF p m p n=(p,m+n):=by unfold sumF;rw[ifp rfl]
  rw[l];have i:=XJ m n w j k h;have A:=qh i;clear i j k h l;have G:(p==p)=true:=by cases p<;>rfl
  go_enter func116,ntmps116
  go_wp2_with fail
  refine nxa A.o λo E=>?_;go_wp2;go_ret2;exact⟨rfl,E.o⟩
 have hb:(p==q)=false:=by rw[beq_eq_false_iff_ne];exact d
 by_cases c:m<n;have l:sumF p m q n=(q,n-m):=by unfold sumF;rw[ifn d,ifp c]
 rw[l];have i:=Pp m n w j k;rw[Cw c]at i;have B:=λo=>PS n m o k j (Nat.le_of_lt c)
 rotate_left
 have l:sumF p m q n=(p,m-n):=by unfold sumF;rw[ifn d,ifn c]
 rw[l];have i:=Pp m n w j k;have C:0<=cmpN m n:=by
  rcases Nat.lt_or_ge n m with D|D
  ·rw[CW D];omega
  rw[DZ (by omega)];omega
 generalize cmpN m n=z at i C;have B:=λo=>PS m n o j k (by omega)
 all_goals
  have A:=qh i;clear i;have F:=qh B;clear B;clear j k h l c d
  go_enter func116,ntmps116
  go_wp2_with fail
  refine A.o.mono ?_;rintro e o⟨rfl,g⟩;replace g:=qh g
  go_wp2_with fail
  refine(F.o o).mono ?_;rintro e H⟨rfl,s⟩;have u:=qh<|g.o.trans (s.mono g.o.size);clear s;go_wp2;go_ret2;exact⟨rfl,u.o⟩
def Qf(s:ByteArray)(w:World)(d:s.size<=9223372036854775807):
  Calls prog 143 #[.string s] w λe w'=>e=.returned (.bool (decide (s.size<=400)&&vld s))/\w=w':=by
 have c:=Cq s w (by unfold maxLen;omega);replace c:=qh c;by_cases h:s.size<=400
 ·have g:(s.size:Int)<=400:=by omega
  have e:(decide (s.size<=400)&&vld s)=vld s:=by rw[decide_eq_true h];rfl
  rw[e];clear h e d
  go_enter func143,ntmps143
  go_wp2_with fail
  refine c.o.mono ?_;rintro e i⟨rfl,rfl⟩;go_wp2;go_ret;exact⟨rfl,rfl⟩
 have g:(400:Int)<(s.size:Int):=by omega
 have e:(decide (s.size<=400)&&vld s)=false:=by rw[decide_eq_false h];rfl
 rw[e];clear h e d
 go_enter func143,ntmps143
 go_wp2;go_ret;exact⟨rfl,rfl⟩
def z1f(l:List UInt8):∀(i:Nat),i<l.length->(∀j,j<i->l.getD j 0≠47)->l.getD i 0=47->hasS l=true/\(upTo l).length=i:=by
 induction l with
 |nil=>intro i hi;simp at hi
 |cons a l ih =>
  intro i hi k c;cases i with
  |zero=>simp at c;subst c;simp[hasS,upTo]
  |succ i =>
   have g:a≠47:=by have:=k 0 (by omega);simpa using this
   obtain⟨d,o⟩:=ih i (by simpa using hi) (λj h=>by have:=k (j+1) (by omega);simpa using this) (by simpa using c);have m:upTo (a::l)=a::upTo l:=by simp[upTo,g]
   refine⟨?_,by rw[m,List.length_cons,o]⟩;simp[hasS,g]at d ⊢;exact d
def Vk(l:List UInt8)(h:∀j,j<l.length->l.getD j 0≠47):hasS l=false:=by
 simp[hasS];intro c i e;obtain⟨j,g,d⟩:=List.getElem_of_mem i
 apply h j g
 rw[List.getD_eq_getElem?_getD,List.getElem?_eq_getElem g];simp[d,e]
theorem z1e(c:UInt8)(h:c≠47):((c.toNat:Int)==47)=false:=by
 rw[beq_eq_false_iff_ne];intro e;apply h;apply UInt8.toNat_inj.1;show c.toNat=47;omega
def idxF(s:ByteArray):Int:=if hasS (bts s) then ((upTo (bts s)).length:Int) else -1
def Vt(s:ByteArray)(w:World)(B:s.size<=9223372036854775807):
  Calls prog 142 #[.string s,.int .u8 47] w λe w'=>e=.returned (.int .i64 (idxF s))/\Below w.heap.size w w':=by
 have C:(s.size:Int)<=9223372036854775807:=by omega
 clear B
 go_enter func142,ntmps142
 go_wp2
 go_loopw [5] (λi wr=>∃k:Nat,k<=s.size/\i=.int .i64 k/\(∀j,j<k->(bts s).getD j 0≠47)/\wr=w) (λi _=>s.size-(intOf i).toNat)
 case atStart=>exact⟨0,Nat.zero_le _,rfl,λj m=>by omega,rfl⟩
 obtain⟨k,D,rfl,m,rfl⟩:=hrel;have o:=qh m;clear m;by_cases d:k<s.size
 ·by_cases g:s[k]=47
  ·have u:((s[k].toNat:Int)==47)=true:=by rw[g];rfl
   have l:idxF s=k:=by
    obtain⟨z,A⟩:=z1f (bts s) k (by rw[Ap];exact d) o.o (by rw[Eu s k d];exact g);unfold idxF;rw[z,A];rfl
   have p:=qh l;clear l g;go_wp2;go_ret;exact⟨BK p.o.symm,blr⟩
  have u:((s[k].toNat:Int)==47)=false:=z1e _ g;have c:∀j,j<k+1->(bts s).getD j 0≠47:=by
   intro j m;by_cases e:j=k
   ·subst e;rw[Eu s j d];exact g
   exact o.o j (by omega)
  replace c:=qh c;clear g;go_wp2;go_roundw
  case rel=>exact⟨k+1,by omega,by go_num,c.o,by trivial⟩
  simp[intOf];omega
 have l:idxF s=-1:=by
  unfold idxF;rw[Vk (bts s) (λj h=>o.o j (by rw[Ap]at h;omega))];rfl
 have p:=qh l;clear l;go_wp2;go_ret;exact⟨BK p.o.symm,blr⟩
def txtM(r:Bool)(x y:ByteArray):ByteArray :=
 let s:=if r then (⟨#[45]⟩:ByteArray)++x else x
 if y=⟨#[49]⟩ then s else (s++(⟨#[47]⟩:ByteArray))++y
theorem z1b(r:Bool)(x y:ByteArray):txtM r x y=txtS r x y:=by
 unfold txtM txtS;by_cases h:y=⟨#[49]⟩
 ·rw[ifp h,ifp h]
 rw[ifn h,ifn h,ByteArray.append_assoc]
theorem VU(s:Bool)(a b g x y t u:ByteArray)(r:Bool)(w:World)(C:(s=false/\r=false)\/(s=true/\(x.toList==[48])=!r))(hb:(b.toList==[48])=false)
  (F:x.size<=1000) (G:y.size<=1000)
  (c0:∀wx,Calls prog 149 #[.string a] wx λe w'=>e=.returned (.bool true)/\wx=w')
  (p:∀wx,Calls prog 149 #[.string b] wx λe w'=>e=.returned (.bool true)/\wx=w')
  (c1:∀wx,Calls prog 144 #[.string a,.string b] wx (StrZ g wx))
  (c2:∀wx,Calls prog 150 #[.string a,.string g] wx λe w'=>e=.returned (.tuple #[.string x,.string t,.int .i64 0])/\Below wx.heap.size wx w')
  (c3:∀wx,Calls prog 150 #[.string b,.string g] wx λe w'=>e=.returned (.tuple #[.string y,.string u,.int .i64 0])/\Below wx.heap.size wx w') :
  Calls prog 118 #[.bool s,.string a,.string b] w λe w' =>
   e=(if x.size<=400/\y.size<=400 then .returned (.tuple #[.string (txtM r x y),.int .i64 0]) else .returned (.tuple #[.string ⟨#[]⟩,.int .i64 2]))/\Below w.heap.size w w':=by
 replace c0:=qh c0;have D:=qh p;clear p;replace c1:=qh c1;replace c2:=qh c2;replace c3:=qh c3;have k:(x.size<=400/\y.size<=400)\/(x.size<=400/\400<y.size)\/400<x.size:=by omega
 obtain⟨N,c⟩:∃E:Ending,E=(if x.size<=400/\y.size<=400 then .returned (.tuple #[.string (txtM r x y),.int .i64 0]) else .returned (.tuple #[.string ⟨#[]⟩,.int .i64 2])):=⟨_,rfl⟩
 rw[<-c];replace c:=qh c
 go_enter func118,ntmps118
 go_wp2_with fail
 refine(c0.o _).mono ?_;rintro e J⟨rfl,rfl⟩
 go_wp2_with fail
 refine(D.o _).mono ?_;rintro e J⟨rfl,rfl⟩
 go_wp2_with fail
 refine(c1.o _).mono ?_;rintro e J⟨rfl,j⟩;replace j:=qh j
 go_wp2_with fail
 refine(c2.o _).mono ?_;rintro e Q⟨rfl,z⟩;have o:=qh<|j.o.trans (z.mono j.o.size);clear z
 go_wp2_with fail
 refine(c3.o _).mono ?_;rintro e R⟨rfl,A⟩;have d:=qh<|o.o.trans (A.mono o.o.size);clear A;clear hb
 rcases k with⟨l,B⟩|⟨l,B⟩|l
 ·have i:=qh<|show x.size<=400/\y.size<=400 from ⟨l,B⟩;have I:(x.size:Int)<=400:=by omega
  have K:(y.size:Int)<=400:=by omega
  have O:(x.size:Int)<=8388608:=by omega
  have P:(y.size:Int)<=8388608:=by omega
  clear l B F G;by_cases m:y=⟨#[49]⟩
  ·subst m
   rcases C with⟨rfl,rfl⟩|⟨rfl,H⟩
   ·go_wp2;go_ret2;exact⟨by rw[c.o,ifp i.o];rfl,d.o⟩
   cases r<;>simp only[Bool.not_true,Bool.not_false]at H
   ·go_wp2;go_ret2;exact⟨by rw[c.o,ifp i.o];rfl,d.o⟩
   go_wp2;go_ret2;exact⟨by rw[c.o,ifp i.o];rfl,d.o⟩
  have L:(y.toList==[49])=false:=BU m;replace m:=qh m
  rcases C with⟨rfl,rfl⟩|⟨rfl,H⟩
  ·go_wp2;go_ret2;exact⟨by rw[c.o,ifp i.o];unfold txtM;rw[ifn m.o];rfl,d.o⟩
  cases r<;>simp only[Bool.not_true,Bool.not_false]at H
  rotate_left
  all_goals
   go_wp2;go_ret2;exact⟨by rw[c.o,ifp i.o];unfold txtM;rw[ifn m.o];rfl,d.o⟩
 ·have i:=qh (show ¬(x.size<=400/\y.size<=400) from λh=>by omega);have I:(x.size:Int)<=400:=by omega
  have K:(400:Int)<(y.size:Int):=by omega
  clear l B F G C;go_wp2;go_ret2;exact⟨by rw[c.o,ifn i.o];rfl,d.o⟩
 have i:=qh (show ¬(x.size<=400/\y.size<=400) from λh=>by omega);have I:(400:Int)<(x.size:Int):=by omega
 clear l F G C;go_wp2;go_ret2;exact⟨by rw[c.o,ifn i.o];rfl,d.o⟩
theorem Lb(n:Nat):((str (dec n)).toList==[48])=decide (n=0):=by
 rw[str_eq,decide_eq_decide];exact⟨λh=>CF (h.trans CG.symm),λh=>by rw[h,CG]⟩
def Qb{n:Nat}(h:n≠0):((str (dec n)).toList==[48])=false:=by
 rw[str_eq,decide_eq_false_iff_not];exact λe=>h (CF (e.trans CG.symm))
def Hv(s:Bool)(m d:Nat)(w:World)(k:fits m)(i:fits d)(j:d≠0):
  Calls prog 118 #[.bool s,.string (str (dec m)),.string (str (dec d))] w (PairEnd (limR (mkRat (sg s m) d)) w):=by
 obtain⟨o,p,D⟩:=Oj (sg s m) d j;rw[Iw]at o p;have A:fits (Nat.gcd m d):=Cj i (Nat.le_of_dvd (Nat.pos_of_ne_zero j) (Nat.gcd_dvd_right _ _));have c:Nat.gcd m d≠0:=by have:=Nat.gcd_pos_of_pos_right m (Nat.pos_of_ne_zero j);omega
 have E:fits (m / Nat.gcd m d):=Cj k (Nat.div_le_self _ _);have F:fits (d / Nat.gcd m d):=Cj i (Nat.div_le_self _ _);have B:∀n,fits n->∀g,Calls prog 149 #[.string (str (dec n))] g λe C=>e=.returned (.bool true)/\g=C:=by
  intro n l g;have:=Cq (str (dec n)) g (AW l);have u:Aq (bts (str (dec n)))=true:=AY l;rw[u]at this;exact this
 have G:=VU s (str (dec m)) (str (dec d)) (str (dec (Nat.gcd m d))) (str (dec (m / Nat.gcd m d))) (str (dec (d / Nat.gcd m d))) _ _ (negQ (mkRat (sg s m) d)) w ?_ (Qb j) ?_ ?_
  (B m k) (B d i) (λg=>PC m d g k i) (λg=>Pr m _ g k A c) (λg=>Pr d _ g i A c)
 ·refine G.mono ?_;rintro e C⟨rfl,hb⟩;refine⟨?_,hb⟩;have hf:fitQ (mkRat (sg s m) d)↔((str (dec (m / Nat.gcd m d))).size<=400/\(str (dec (d / Nat.gcd m d))).size<=400):=by
   unfold fitQ;rw[o,p,AI,AI]
  have l:txt (mkRat (sg s m) d)=txtM (negQ (mkRat (sg s m) d)) (str (dec (m / Nat.gcd m d))) (str (dec (d / Nat.gcd m d))):=by
   rw[z1b,<-QV,o,p]
  by_cases h:fitQ (mkRat (sg s m) d)
  ·rw[CZ h,ifp (hf.1 h),l];rfl
  rw[NS h,ifn (λe=>h (hf.2 e))];rfl
 ·rw[D];cases s
  ·left;refine⟨rfl,?_⟩;rw[decide_eq_false_iff_not,Ix];simp
  right;refine⟨rfl,?_⟩
  rw[Lb];have H:m / Nat.gcd m d=0↔m=0:=by
   rw[Nat.div_eq_zero_iff]
   constructor
   ·intro h
    rcases h with h|h
    ·exact absurd h c
    by_cases z:m=0
    ·exact z
    have:=Nat.le_of_dvd (Nat.pos_of_ne_zero z) (Nat.gcd_dvd_left m d);omega
   intro h;right;rw[h];rw[h]at c;exact Nat.pos_of_ne_zero c
  rw[Bool.eq_iff_iff];simp only[decide_eq_true_eq,Bool.not_eq_true',decide_eq_false_iff_not,Ix,H];simp
 ·rw[AI];exact E
 rw[AI];exact F
def Bi{fn:Func}{t u v x:Tmp}(h:fn.results=#[.tmp t,.tmp u,.tmp v,.tmp x])(c:Array Value)(P:Program)(w:World):
  (results fn c).run P w=.ok (.tuple #[c.getD t undef,c.getD u undef,c.getD v undef,c.getD x undef]) w:=by
 simp[results,h]
def Quad(ok neg:Bool)(n d:ByteArray):Value:=.tuple #[.bool (ok&&neg),.string (if ok then n else ⟨#[]⟩),.string (if ok then d else ⟨#[]⟩),.bool ok]
def okC(neg frac vn vd:Bool)(n d g:ByteArray):Bool:=vn&&vd&&!(d.toList==[48])&&!((n.toList==[48])&&(neg||frac))&&!((d.toList==[49])&&frac)&&((g.toList==[49])||(d.toList==[49]))
def z1d(c:UInt8)(h:c≠45):((c.toNat:Int)==45)=false:=by
 rw[beq_eq_false_iff_ne];intro e;apply h;apply UInt8.toNat_inj.1;show c.toNat=45;omega
def Yt(s r n d g:ByteArray)(neg u z A:Bool)(i:Nat)(w:World)(W:s.size<=9223372036854775807)(U:r.size<=9223372036854775807)
  (hs:(neg=false/\r=s/\(s.size=0\/∃h:0<s.size,s[0]≠45))\/(neg=true/\r=s.extract 1 s.size/\∃h:0<s.size,s[0]=45))
  (hf:(u=false/\idxF r=-1/\n=r/\d=⟨#[49]⟩/\A=true/\(g.toList==[49])=true)\/(u=true/\idxF r=i/\i+1<=r.size/\n=r.extract 0 i/\d=r.extract (i+1) r.size))
  (c2:∀wx,Calls prog 142 #[.string r,.int .u8 47] wx λe w'=>e=.returned (.int .i64 (idxF r))/\Below wx.heap.size wx w')
  (c3:∀wx,Calls prog 143 #[.string n] wx λe w'=>e=.returned (.bool z)/\wx=w')
  (c4:∀wx,Calls prog 143 #[.string d] wx λe w'=>e=.returned (.bool A)/\wx=w')
  (c5:z=true->A=true->∀wx,Calls prog 144 #[.string n,.string d] wx (StrZ g wx)) :
  Calls prog 115 #[.string s] w λe w'=>e=.returned (Quad (okC neg u z A n d g) neg n d)/\Below w.heap.size w w':=by
 replace c2:=qh c2;replace c3:=qh c3;replace c4:=qh c4;replace c5:=qh c5;obtain⟨EE,j⟩:∃E:Value,E=Quad (okC neg u z A n d g) neg n d:=⟨_,rfl⟩;rw[<-j];replace j:=qh j;have b1:(s.size:Int)<=9223372036854775807:=by omega
 have b2:(r.size:Int)<=9223372036854775807:=by omega
 clear W U
 rcases hs with⟨rfl,rfl,B|⟨hp,B⟩⟩|⟨rfl,Y,hp,B⟩
 ·
  rcases hf with⟨rfl,m,rfl,rfl,rfl,G⟩|⟨rfl,m,hi,D,C⟩
  ·have p:=qh m;clear m
   go_enter func115,ntmps115
   go_wp2_with fail
   refine(c2.o _).mono ?_;rintro e I⟨rfl,o⟩;have c:=qh o;clear o;rw[p.o]
   go_wp2_with fail
   refine(c3.o _).mono ?_;rintro e w'⟨rfl,rfl⟩;cases z
   ·
    go_wp2_with fail
    refine bodyPost_ret (Bi rfl _ _ _) rfl ⟨?_,c.o⟩;rw[j.o];simp[okC,Quad, *]
   go_wp2_with fail
   refine(c4.o _).mono ?_;rintro e w'⟨rfl,rfl⟩;cases H:(n.toList==[48])
   ·
    go_wp2_with fail
    refine(c5.o (by trivial) (by trivial) _).mono ?_;rintro e F⟨rfl,k⟩;have l:=qh<|c.o.trans (k.mono c.o.size);clear k
    go_wp2_with fail
    refine bodyPost_ret (Bi rfl _ _ _) rfl ⟨?_,l.o⟩;rw[j.o];simp[okC,Quad, *]
   go_wp2_with fail
   refine(c5.o (by trivial) (by trivial) _).mono ?_;rintro e F⟨rfl,k⟩;have l:=qh<|c.o.trans (k.mono c.o.size);clear k
   go_wp2_with fail
   refine bodyPost_ret (Bi rfl _ _ _) rfl ⟨?_,l.o⟩;rw[j.o];simp[okC,Quad, *]
  exact absurd hi (by omega)
 ·have L:((r[0].toNat:Int)==45)=false:=z1d _ B;clear B
  rcases hf with⟨rfl,m,rfl,rfl,rfl,G⟩|⟨rfl,m,hi,D,C⟩
  ·have p:=qh m;clear m
   go_enter func115,ntmps115
   go_wp2_with fail
   refine(c2.o _).mono ?_;rintro e I⟨rfl,o⟩;have c:=qh o;clear o;rw[p.o]
   go_wp2_with fail
   refine(c3.o _).mono ?_;rintro e w'⟨rfl,rfl⟩;cases z
   ·
    go_wp2_with fail
    refine bodyPost_ret (Bi rfl _ _ _) rfl ⟨?_,c.o⟩;rw[j.o];simp[okC,Quad, *]
   go_wp2_with fail
   refine(c4.o _).mono ?_;rintro e w'⟨rfl,rfl⟩;cases H:(n.toList==[48])
   ·
    go_wp2_with fail
    refine(c5.o (by trivial) (by trivial) _).mono ?_;rintro e F⟨rfl,k⟩;have l:=qh<|c.o.trans (k.mono c.o.size);clear k
    go_wp2_with fail
    refine bodyPost_ret (Bi rfl _ _ _) rfl ⟨?_,l.o⟩;rw[j.o];simp[okC,Quad, *]
   go_wp2_with fail
   refine(c5.o (by trivial) (by trivial) _).mono ?_;rintro e F⟨rfl,k⟩;have l:=qh<|c.o.trans (k.mono c.o.size);clear k
   go_wp2_with fail
   refine bodyPost_ret (Bi rfl _ _ _) rfl ⟨?_,l.o⟩;rw[j.o];simp[okC,Quad, *]
  have p:=qh m;clear m;have P:(0:Int)<=(i:Int):=by omega
  have Q:(i:Int)<=(r.size:Int):=by omega
  have R:(0:Int)<=(i:Int)+1:=by omega
  have S:(i:Int)+1<=(r.size:Int):=by omega
  have T:IntKind.i64.wrap ((i:Int)+1)=(i:Int)+1:=by rw[IntKind.wrap_i64];omega
  have K:=qh D.symm;clear D;have J:=qh C.symm;clear C hi
  go_enter func115,ntmps115
  go_wp2_with fail
  refine(c2.o _).mono ?_;rintro e I⟨rfl,o⟩;have c:=qh o;clear o;rw[p.o]
  go_wp2_with fail
  rw[K.o,J.o];refine(c3.o _).mono ?_;rintro e w'⟨rfl,rfl⟩;cases z
  ·
   go_wp2_with fail
   refine bodyPost_ret (Bi rfl _ _ _) rfl ⟨?_,c.o⟩;rw[j.o];simp[okC,Quad, *]
  go_wp2_with fail
  refine(c4.o _).mono ?_;rintro e w'⟨rfl,rfl⟩;cases A
  ·
   go_wp2_with fail
   refine bodyPost_ret (Bi rfl _ _ _) rfl ⟨?_,c.o⟩;rw[j.o];simp[okC,Quad, *]
  cases N:(d.toList==[48])
  ·
   cases H:(n.toList==[48])
   ·
    cases O:(d.toList==[49])
    ·
     go_wp2_with fail
     refine(c5.o (by trivial) (by trivial) _).mono ?_;rintro e F⟨rfl,k⟩;have l:=qh<|c.o.trans (k.mono c.o.size);clear k;cases Z:(g.toList==[49])
     ·
      go_wp2_with fail
      refine bodyPost_ret (Bi rfl _ _ _) rfl ⟨?_,l.o⟩;rw[j.o];simp[okC,Quad, *]
     go_wp2_with fail
     refine bodyPost_ret (Bi rfl _ _ _) rfl ⟨?_,l.o⟩;rw[j.o];simp[okC,Quad, *]
    go_wp2_with fail
    refine bodyPost_ret (Bi rfl _ _ _) rfl ⟨?_,c.o⟩;rw[j.o];simp[okC,Quad, *]
   go_wp2_with fail
   refine bodyPost_ret (Bi rfl _ _ _) rfl ⟨?_,c.o⟩;rw[j.o];simp[okC,Quad, *]
  go_wp2_with fail
  refine bodyPost_ret (Bi rfl _ _ _) rfl ⟨?_,c.o⟩;rw[j.o];simp[okC,Quad, *]
 have L:((s[0].toNat:Int)==45)=true:=by rw[B];rfl
 have X:=qh Y.symm;clear Y B;have a1:(1:Int)<=(s.size:Int):=by omega
 rcases hf with⟨rfl,m,rfl,rfl,rfl,G⟩|⟨rfl,m,hi,D,C⟩
 ·have p:=qh m;clear m
  go_enter func115,ntmps115
  go_wp2_with fail
  rw[X.o];refine(c2.o _).mono ?_;rintro e I⟨rfl,o⟩;have c:=qh o;clear o;rw[p.o]
  go_wp2_with fail
  refine(c3.o _).mono ?_;rintro e w'⟨rfl,rfl⟩;cases z
  ·
   go_wp2_with fail
   refine bodyPost_ret (Bi rfl _ _ _) rfl ⟨?_,c.o⟩;rw[j.o];simp[okC,Quad, *]
  go_wp2_with fail
  refine(c4.o _).mono ?_;rintro e w'⟨rfl,rfl⟩;cases H:(n.toList==[48])
  ·
   go_wp2_with fail
   refine(c5.o (by trivial) (by trivial) _).mono ?_;rintro e F⟨rfl,k⟩;have l:=qh<|c.o.trans (k.mono c.o.size);clear k
   go_wp2_with fail
   refine bodyPost_ret (Bi rfl _ _ _) rfl ⟨?_,l.o⟩;rw[j.o];simp[okC,Quad, *]
  go_wp2_with fail
  refine bodyPost_ret (Bi rfl _ _ _) rfl ⟨?_,c.o⟩;rw[j.o];simp[okC,Quad, *]
 have p:=qh m;clear m;have P:(0:Int)<=(i:Int):=by omega
 have Q:(i:Int)<=(r.size:Int):=by omega
 have R:(0:Int)<=(i:Int)+1:=by omega
 have S:(i:Int)+1<=(r.size:Int):=by omega
 have T:IntKind.i64.wrap ((i:Int)+1)=(i:Int)+1:=by rw[IntKind.wrap_i64];omega
 have K:=qh D.symm;clear D;have J:=qh C.symm;clear C hi
 go_enter func115,ntmps115
 go_wp2_with fail
 rw[X.o];refine(c2.o _).mono ?_;rintro e I⟨rfl,o⟩;have c:=qh o;clear o;rw[p.o]
 go_wp2_with fail
 rw[K.o,J.o];refine(c3.o _).mono ?_;rintro e w'⟨rfl,rfl⟩;cases z
 ·
  go_wp2_with fail
  refine bodyPost_ret (Bi rfl _ _ _) rfl ⟨?_,c.o⟩;rw[j.o];simp[okC,Quad, *]
 go_wp2_with fail
 refine(c4.o _).mono ?_;rintro e w'⟨rfl,rfl⟩;cases A
 ·
  go_wp2_with fail
  refine bodyPost_ret (Bi rfl _ _ _) rfl ⟨?_,c.o⟩;rw[j.o];simp[okC,Quad, *]
 cases N:(d.toList==[48])
 ·
  cases H:(n.toList==[48])
  ·
   cases O:(d.toList==[49])
   ·
    go_wp2_with fail
    refine(c5.o (by trivial) (by trivial) _).mono ?_;rintro e F⟨rfl,k⟩;have l:=qh<|c.o.trans (k.mono c.o.size);clear k;cases Z:(g.toList==[49])
    ·
     go_wp2_with fail
     refine bodyPost_ret (Bi rfl _ _ _) rfl ⟨?_,l.o⟩;rw[j.o];simp[okC,Quad, *]
    go_wp2_with fail
    refine bodyPost_ret (Bi rfl _ _ _) rfl ⟨?_,l.o⟩;rw[j.o];simp[okC,Quad, *]
   go_wp2_with fail
   refine bodyPost_ret (Bi rfl _ _ _) rfl ⟨?_,c.o⟩;rw[j.o];simp[okC,Quad, *]
  go_wp2_with fail
  refine bodyPost_ret (Bi rfl _ _ _) rfl ⟨?_,c.o⟩;rw[j.o];simp[okC,Quad, *]
 go_wp2_with fail
 refine bodyPost_ret (Bi rfl _ _ _) rfl ⟨?_,c.o⟩;rw[j.o];simp[okC,Quad, *]
variable{r:ByteArray}
def AZ(o:Option Rat):Value:=match o with
 |some q=>.tuple #[.bool (negQ q),.string (str (dec q.num.natAbs)),.string (str (dec q.den)),.bool true]
 |none=>.tuple #[.bool false,.string ⟨#[]⟩,.string ⟨#[]⟩,.bool false]
theorem TD(h:hasS (bts r)=true):r.extract 0 (upTo (bts r)).length=str (upTo (bts r)):=by
 have c:=Fc _ h
 apply Dm;rw[FK,AP];conv=>lhs;arg 2;arg 2;rw[c]
 rw[List.take_left,List.drop_zero]
theorem TE(h:hasS (bts r)=true):r.extract ((upTo (bts r)).length+1) r.size=str (Bl (bts r)):=by
 have c:=Fc _ h
 apply Dm;rw[FK,AP,List.take_of_length_le (by rw[Ap];omega)]
 conv=>lhs;arg 2;rw[c]
 rw[<-List.drop_drop,List.drop_left];rfl
def TF(h:hasS (bts r)=true):(upTo (bts r)).length+1<=r.size:=by
 have c:=congrArg List.length (Fc _ h);rw[Ap,List.length_append,List.length_cons]at c;omega
def SK(i g l k n0 j c d neg:Bool)(h:i=true->g=true->n0=true->d=true->c=true):
  ((l&&i)&&(k&&g)&&!j&&!(n0&&(neg||true))&&!(c&&true)&&(d||c))=(i&&g&&l&&k&&!(neg&&n0)&&!(true&&(j||c))&&d):=by
 cases i<;>cases g<;>cases n0<;>cases d<;>cases c<;>cases l<;>cases k<;>cases j<;>cases neg<;>first|rfl|(simp at h)
def SL(d c n0 neg:Bool):((c&&d)&&true&&!false&&!(n0&&(neg||false))&&!(true&&false)&&(true||true))=(d&&true&&c&&true&&!(neg&&n0)&&!(false&&(false||true))&&true):=by
 cases d<;>cases n0<;>cases c<;>cases neg<;>rfl
theorem MR(n:Nat):decide (dec n=[49])=decide (n=1):=by
 rw[decide_eq_decide];exact⟨λh=>CF (h.trans Ch.symm),λh=>by rw[h,Ch]⟩
theorem Ka(l r:List UInt8):(l==r)=decide (l=r):=by rw[Bool.eq_iff_iff];simp
def Dw(s:ByteArray)(w:World)(Q:s.size<=9223372036854775807):
  Calls prog 115 #[.string s] w λe w'=>e=.returned (AZ (prs s))/\Below w.heap.size w w':=by
 obtain⟨r,z⟩:=exq<|str (Ai (bts s));have j:bts r=Ai (bts s):=by rw[z,AP]
 have P:r.size<=s.size:=by
  rw[<-Ap,j];unfold Ai;split
  ·rw[List.length_tail,Ap];omega
  rw[Ap];omega
 have B:(str (denL (bts r))).size<=9223372036854775807:=by
  rw[AI];unfold denL;split
  ·rename_i h;have:=congrArg List.length (Fc _ h);rw[Ap,List.length_append,List.length_cons]at this;omega
  show 1<=_;omega
 have D:(str (upTo (bts r))).size<=9223372036854775807:=by
  rw[AI];have:=(List.takeWhile_sublist (· != 47) (l:=bts r)).length_le;rw[Ap]at this;unfold upTo;omega
 have O:=Yt s r (str (upTo (bts r))) (str (denL (bts r))) (str (dec (Nat.gcd (num (upTo (bts r))) (num (denL (bts r)))))) (AS (bts s)) (hasS (bts r))
  (decide ((str (upTo (bts r))).size<=400)&&vld (str (upTo (bts r)))) (decide ((str (denL (bts r))).size<=400)&&vld (str (denL (bts r)))) (upTo (bts r)).length w Q (by omega) ?_ ?_
  (λi=>Vt r i (by omega)) (λi=>Qf _ i D) (λi=>Qf _ i B)
  (λA p i=>by
   simp only[Bool.and_eq_true,decide_eq_true_eq]at A p;have v1:Aq (upTo (bts r))=true:=by have:=A.2;unfold vld at this;rw[AP]at this;exact this
   have K:Aq (denL (bts r))=true:=by have:=p.2;unfold vld at this;rw[AP]at this;exact this
   have m:=BZ v1;have o:=BZ K;have L:fits (num (upTo (bts r))):=by unfold fits;rw[m];exact(Bf v1).2.1
   have N:fits (num (denL (bts r))):=by unfold fits;rw[o];exact(Bf K).2.1
   have:=PC _ _ i L N;rw[m,o]at this;exact this)
 ·refine O.mono ?_;rintro e w'⟨rfl,hb⟩;refine⟨?_,hb⟩;have E:okC (AS (bts s)) (hasS (bts r)) (decide ((str (upTo (bts r))).size<=400)&&vld (str (upTo (bts r)))) (decide ((str (denL (bts r))).size<=400)&&vld (str (denL (bts r)))) (str (upTo (bts r))) (str (denL (bts r))) (str (dec (Nat.gcd (num (upTo (bts r))) (num (denL (bts r))))))
    = okP (AS (bts s)) (upTo (bts r)) (denL (bts r)) (hasS (bts r)):=by
   unfold okC okP vld;rw[str_eq,str_eq,str_eq,str_eq,AI,AI,AP,AP,MR,Ka,Ka,Ka];cases hf:hasS (bts r)
   ·have g:denL (bts r)=[49]:=by unfold denL;rw[hf];rfl
    rw[g];have m:decide (Nat.gcd (num (upTo (bts r))) (num [49])=1)=true:=by
     rw[decide_eq_true_eq];show Nat.gcd _ 1=1;exact Nat.gcd_one_right _
    have o:Aq [49]=true:=by decide
    rw[m,o];exact SL _ _ _ _
   refine SK _ _ _ _ _ _ _ _ _ ?_;intro A p H u;rw[decide_eq_true_eq]at H u ⊢;rw[H]at u;have:num (denL (bts r))=1:=by rw[show num [48]=0 from rfl,Nat.gcd_zero_left]at u;exact u
   rw[<-BZ p,this,Ch]
  rw[E,j];cases J:okP (AS (bts s)) (upTo (Ai (bts s))) (denL (Ai (bts s))) (hasS (Ai (bts s)))
  ·have d:prs s=none:=by unfold prs prsL;rw[J];rfl
   rw[d];rfl
  have d:prs s=some (mkRat (sg (AS (bts s)) (num (upTo (Ai (bts s))))) (num (denL (Ai (bts s))))):=by unfold prs prsL;rw[J];rfl
  have F:=(Ks d).2;rw[d];simp only[AZ,F.sign,F.top,F.bot];rfl
 ·by_cases G:s.size=0
  ·have C:bts s=[]:=List.length_eq_zero_iff.1 (by rw[Ap];exact G)
   left;refine⟨by rw[C];rfl,?_,.inl G⟩
   rw[z,C];apply Dm;rw[AP,C];rfl
  have d:0<s.size:=by omega
  have I:=FW s d;by_cases c:s[0]=45
  ·right
   have k:AS (bts s)=true:=by unfold AS;rw[I,c];rfl
   refine⟨k,?_,d,c⟩;rw[z];apply Dm;rw[AP,FK,List.take_of_length_le (by rw[Ap];omega)];unfold Ai;rw[k];cases bts s<;>rfl
  left
  have k:AS (bts s)=false:=by unfold AS;rw[I,beq_eq_false_iff_ne];exact c
  refine⟨k,?_,.inr ⟨d,c⟩⟩;rw[z];unfold Ai;rw[k];exact Ej s
 cases hf:hasS (bts r)
 ·left
  have g:denL (bts r)=[49]:=by unfold denL;rw[hf];rfl
  refine⟨rfl,by unfold idxF;rw[hf];rfl,by rw[Hk _ hf,Ej],by rw[g];rfl,?_,?_⟩
  ·rw[g];decide
  rw[g,str_eq,MR,decide_eq_true_eq];exact Nat.gcd_one_right _
 right
 have g:denL (bts r)=Bl (bts r):=by unfold denL;rw[hf];rfl
 exact⟨rfl,by unfold idxF;rw[hf];rfl,TF hf,(TD hf).symm,by rw[g];exact(TE hf).symm⟩
def QC(a:ByteArray)(w:World)(i:a.size<=9223372036854775807):
  Calls prog 113 #[.string a] w λe w'=>e=.returned (.bool (prs a).isSome)/\Below w.heap.size w w':=by
 have c:=Dw a w i;cases d:prs a with
 |none =>
  rw[d]at c;simp only[AZ]at c;have h:=qh c;clear c d i
  go_enter func113,ntmps113
  go_wp2_with fail
  refine h.o.mono ?_;rintro e w'⟨rfl,hb⟩;have g:=qh hb;clear hb;go_wp2;go_ret;exact⟨rfl,g.o⟩
 |some q =>
  rw[d]at c;simp only[AZ]at c;have h:=qh c;clear c d i
  go_enter func113,ntmps113
  go_wp2_with fail
  refine h.o.mono ?_;rintro e w'⟨rfl,hb⟩;have g:=qh hb;clear hb;go_wp2;go_ret;exact⟨rfl,g.o⟩
def negF(a:ByteArray):ByteArray × Nat:=match prs a with|some x=>limR (-x)|none=>(str [],1)
theorem WB(q:Rat):mkRat (sg (!negQ q) q.num.natAbs) q.den=-q:=by
 rw[Le,Ey,<-Rat.neg_mkRat,Rat.mkRat_self]
theorem YY(a:ByteArray)(w:World)(k:a.size<=9223372036854775807):
  Calls prog 227 #[.string a] w (PairEnd (negF a) w):=by
 have c:=Dw a w k;cases d:prs a with
 |none =>
  have g:negF a=(str [],1):=by unfold negF;rw[d]
  rw[g];rw[d]at c;simp only[AZ]at c;have j:=qh c;clear c d k g
  go_enter func227,ntmps227
  go_wp2_with fail
  refine j.o.mono ?_;rintro e o⟨rfl,hb⟩;replace hb:=qh hb;go_wp2;go_ret2;exact⟨rfl,hb.o⟩
 |some q =>
  have hf:=(AX d).2;have g:negF a=limR (-q):=by unfold negF;rw[d]
  have c2:=λl=>Hv (!negQ q) q.num.natAbs q.den l (BF hf) (Bc hf) q.den_nz;rw[WB]at c2;rw[g];rw[d]at c;simp only[AZ]at c;generalize limR (-q)=lr at *;obtain⟨ls,m⟩:=lr;replace c2:=qh c2;have j:=qh c;clear c d k g hf
  go_enter func227,ntmps227
  go_wp2_with fail
  refine nxa j.o λp h=>?_
  go_wp2_with fail
  refine nxb (c2.o _) h λs i=>?_;go_wp2;go_ret2;exact⟨rfl,i.o⟩
def KY(a b:ByteArray)(w:World)(G:a.size<=9223372036854775807)(hb:b.size<=9223372036854775807):
  Calls prog 68 #[.string a,.string b] w (PairEnd (Be a b) w):=by
 have c1:=λc=>Dw a c G;have c2:=λc=>Dw b c hb;clear G hb;cases j:prs a with
 |none =>
  have l:Be a b=(str [],1):=by unfold Be;rw[j]
  rw[l];rw[j]at c1;simp only[AZ]at c1;have o:=qh c1;clear c1 j l;cases h:prs b
  rotate_left
  all_goals
   rw[h]at c2;simp only[AZ]at c2;have m:=qh c2;clear c2 h
   go_enter func68,ntmps68
   go_wp2_with fail
   refine nxa (o.o _) λH d=>?_
   go_wp2_with fail
   refine nxb (m.o _) d λI g=>?_;go_wp2;go_ret2;exact⟨rfl,g.o⟩
 |some x =>
  rw[j]at c1;simp only[AZ]at c1;have o:=qh c1;clear c1;have i:=(AX j).2;cases h:prs b with
  |none =>
   have l:Be a b=(str [],1):=by unfold Be;rw[j,h]
   rw[l];rw[h]at c2;simp only[AZ]at c2;have m:=qh c2;clear c2 j h l i
   go_enter func68,ntmps68
   go_wp2_with fail
   refine nxa (o.o _) λH d=>?_
   go_wp2_with fail
   refine nxb (m.o _) d λI g=>?_;go_wp2;go_ret2;exact⟨rfl,g.o⟩
  |some y =>
   rw[h]at c2;simp only[AZ]at c2;have m:=qh c2;clear c2;have k:=(AX h).2;have E:fits (x.num.natAbs*y.den):=Bo i.1 k.2;have F:fits (y.num.natAbs*x.den):=Bo k.1 i.2;have C:fits (x.num.natAbs*y.den+y.num.natAbs*x.den):=FU i.1 k.2 k.1 i.2;have D:fits (x.den*y.den):=Bo i.2 k.2;have l:Be a b=limR (x+y):=by unfold Be;rw[j,h]
   have c6:=λc=>Hv (sumF (negQ x) (x.num.natAbs*y.den) (negQ y) (y.num.natAbs*x.den)).1 (sumF (negQ x) (x.num.natAbs*y.den) (negQ y) (y.num.natAbs*x.den)).2 (x.den*y.den) c (Cj C (Lk _ _ _ _)) D (Nat.mul_ne_zero x.den_nz y.den_nz);rw[<-LQ x y]at c6;rw[l];have c3:=λc=>DR _ _ c (BF i) (Bc k) E;have c4:=λc=>DR _ _ c (BF k) (Bc i) F;have c5:=λc=>Qp (negQ x) (negQ y) _ _ c C;have B:=λc=>DR _ _ c (Bc i) (Bc k) D;generalize limR (x+y)=lr at *;obtain⟨ls,J⟩:=lr;replace c3:=qh c3;replace c4:=qh c4;replace c5:=qh c5;replace c6:=qh c6;replace B:=qh B;clear j h l i k E F C D
   go_enter func68,ntmps68
   go_wp2_with fail
   refine nxa (o.o _) λH d=>?_
   go_wp2_with fail
   refine nxb (m.o _) d λI g=>?_
   go_wp2_with fail
   refine nxb (c3.o _) g λK p=>?_
   go_wp2_with fail
   refine nxb (c4.o _) p λL s=>?_
   go_wp2_with fail
   refine nxb (c5.o _) s λN u=>?_
   go_wp2_with fail
   refine nxb (B.o _) u λO z=>?_
   go_wp2_with fail
   refine nxb (c6.o _) z λP A=>?_;go_wp2;go_ret2;exact⟨rfl,A.o⟩
def YX(a b:ByteArray)(w:World)(B:a.size<=9223372036854775807)(hb:b.size<=9223372036854775807):
  Calls prog 69 #[.string a,.string b] w (PairEnd (BV a b) w):=by
 have c1:=λi=>Dw a i B;have c2:=λi=>Dw b i hb;clear B hb;cases h:prs a with
 |none =>
  have j:BV a b=(str [],1):=by unfold BV;rw[h]
  rw[j];rw[h]at c1;simp only[AZ]at c1;have o:=qh c1;clear c1 h j;cases g:prs b
  rotate_left
  all_goals
   rw[g]at c2;simp only[AZ]at c2;have l:=qh c2;clear c2 g
   go_enter func69,ntmps69
   go_wp2_with fail
   refine nxa (o.o _) λC c=>?_
   go_wp2_with fail
   refine nxb (l.o _) c λD d=>?_;go_wp2;go_ret2;exact⟨rfl,d.o⟩
 |some x =>
  rw[h]at c1;simp only[AZ]at c1;have o:=qh c1;clear c1;have k:=(AX h).2;cases g:prs b with
  |none =>
   have j:BV a b=(str [],1):=by unfold BV;rw[h,g]
   rw[j];rw[g]at c2;simp only[AZ]at c2;have l:=qh c2;clear c2 h g j k
   go_enter func69,ntmps69
   go_wp2_with fail
   refine nxa (o.o _) λC c=>?_
   go_wp2_with fail
   refine nxb (l.o _) c λD d=>?_;go_wp2;go_ret2;exact⟨rfl,d.o⟩
  |some y =>
   rw[g]at c2;simp only[AZ]at c2;have l:=qh c2;clear c2;have m:=(AX g).2;have z:fits (x.num.natAbs*y.num.natAbs):=Bo k.1 m.1;have A:fits (x.den*y.den):=Bo k.2 m.2;have j:BV a b=limR (x*y):=by unfold BV;rw[h,g]
   have c6:=λi=>Hv (negQ x != negQ y) (x.num.natAbs*y.num.natAbs) (x.den*y.den) i z A (Nat.mul_ne_zero x.den_nz y.den_nz);rw[<-Oq x y]at c6;rw[j];have c3:=λi=>DR _ _ i (BF k) (BF m) z;have c4:=λi=>DR _ _ i (Bc k) (Bc m) A;generalize limR (x*y)=lr at *;obtain⟨ls,E⟩:=lr;replace c3:=qh c3;replace c4:=qh c4;replace c6:=qh c6;clear h g j k m z A
   go_enter func69,ntmps69
   go_wp2_with fail
   refine nxa (o.o _) λC c=>?_
   go_wp2_with fail
   refine nxb (l.o _) c λD d=>?_
   go_wp2_with fail
   refine nxb (c3.o _) d λF p=>?_
   go_wp2_with fail
   refine nxb (c4.o _) p λG s=>?_
   go_wp2_with fail
   refine nxb (c6.o _) s λH u=>?_;go_wp2;go_ret2;exact⟨rfl,u.o⟩
def YF(a b:ByteArray)(w:World)(E:a.size<=9223372036854775807)(hb:b.size<=9223372036854775807):
  Calls prog 215 #[.string a,.string b] w (PairEnd (Bq a b) w):=by
 have c1:=λj=>Dw a j E;have c2:=λj=>Dw b j hb;clear E hb;cases h:prs a with
 |none =>
  have i:Bq a b=(str [],1):=by unfold Bq;rw[h]
  rw[i];rw[h]at c1;simp only[AZ]at c1;have p:=qh c1;clear c1 h i;cases g:prs b
  rotate_left
  all_goals
   rw[g]at c2;simp only[AZ]at c2;have m:=qh c2;clear c2 g
   go_enter func215,ntmps215
   go_wp2_with fail
   refine nxa (p.o _) λC c=>?_
   go_wp2_with fail
   refine nxb (m.o _) c λD d=>?_;go_wp2;go_ret2;exact⟨rfl,d.o⟩
 |some x =>
  rw[h]at c1;simp only[AZ]at c1;have p:=qh c1;clear c1;have l:=(AX h).2;cases g:prs b with
  |none =>
   have i:Bq a b=(str [],1):=by unfold Bq;rw[h,g]
   rw[i];rw[g]at c2;simp only[AZ]at c2;have m:=qh c2;clear c2 h g i l
   go_enter func215,ntmps215
   go_wp2_with fail
   refine nxa (p.o _) λC c=>?_
   go_wp2_with fail
   refine nxb (m.o _) c λD d=>?_;go_wp2;go_ret2;exact⟨rfl,d.o⟩
  |some y =>
   rw[g]at c2;simp only[AZ]at c2;have m:=qh c2;clear c2;have o:=(AX g).2;by_cases k:y=0
   ·have F:((str (dec y.num.natAbs)).toList==[48])=true:=by rw[k,Lb];rfl
    have i:Bq a b=(str [],4):=by unfold Bq;rw[h,g];exact ifp k
    rw[i];clear k i h g l o
    go_enter func215,ntmps215
    go_wp2_with fail
    refine nxa (p.o _) λC c=>?_
    go_wp2_with fail
    refine nxb (m.o _) c λD d=>?_;go_wp2;go_ret2;exact⟨rfl,d.o⟩
   have F:((str (dec y.num.natAbs)).toList==[48])=false:=Qb<|λe=>k (Rat.num_eq_zero.1 (Int.natAbs_eq_zero.1 e));have A:fits (x.num.natAbs*y.den):=Bo l.1 o.2;have B:fits (x.den*y.num.natAbs):=Bo l.2 o.1;have i:Bq a b=limR (x / y):=by unfold Bq;rw[h,g];exact ifn k
   have c6:=λj=>Hv (negQ x != negQ y) (x.num.natAbs*y.den) (x.den*y.num.natAbs) j A B (Nat.mul_ne_zero x.den_nz (λe=>k (Rat.num_eq_zero.1 (Int.natAbs_eq_zero.1 e))));rw[<-Na x y]at c6;rw[i];have c3:=λj=>DR _ _ j (BF l) (Bc o) A;have c4:=λj=>DR _ _ j (Bc l) (BF o) B;generalize limR (x / y)=lr at *;obtain⟨ls,G⟩:=lr;replace c3:=qh c3;replace c4:=qh c4;replace c6:=qh c6;clear h g i l o A B k
   go_enter func215,ntmps215
   go_wp2_with fail
   refine nxa (p.o _) λC c=>?_
   go_wp2_with fail
   refine nxb (m.o _) c λD d=>?_
   go_wp2_with fail
   refine nxb (c3.o _) d λH s=>?_
   go_wp2_with fail
   refine nxb (c4.o _) s λI u=>?_
   go_wp2_with fail
   refine nxb (c6.o _) u λJ z=>?_;go_wp2;go_ret2;exact⟨rfl,z.o⟩
def Qa(a b:ByteArray)(w:World)(E:a.size<=9223372036854775807)(hb:b.size<=9223372036854775807):
  Calls prog 114 #[.string a,.string b] w (IntEnd (Bp a b) w):=by
 have c1:=λi=>Dw a i E;have c2:=λi=>Dw b i hb;clear E hb;cases h:prs a with
 |none =>
  have j:Bp a b=0:=by unfold Bp;rw[h]
  rw[j];rw[h]at c1;simp only[AZ]at c1;have p:=qh c1;clear c1 h j;cases g:prs b
  rotate_left
  all_goals
   rw[g]at c2;simp only[AZ]at c2;have o:=qh c2;clear c2 g
   go_enter func114,ntmps114
   go_wp2_with fail
   refine nxa (p.o _) λG c=>?_
   go_wp2_with fail
   refine nxb (o.o _) c λH d=>?_;go_wp2;go_ret;exact⟨rfl,d.o⟩
 |some x =>
  rw[h]at c1;simp only[AZ]at c1;have p:=qh c1;clear c1;have k:=(AX h).2;cases g:prs b with
  |none =>
   have j:Bp a b=0:=by unfold Bp;rw[h,g]
   rw[j];rw[g]at c2;simp only[AZ]at c2;have o:=qh c2;clear c2 h g j k
   go_enter func114,ntmps114
   go_wp2_with fail
   refine nxa (p.o _) λG c=>?_
   go_wp2_with fail
   refine nxb (o.o _) c λH d=>?_;go_wp2;go_ret;exact⟨rfl,d.o⟩
  |some y =>
   rw[g]at c2;simp only[AZ]at c2;have o:=qh c2;clear c2;have l:=(AX g).2;have B:fits (x.num.natAbs*y.den):=Bo k.1 l.2;have C:fits (y.num.natAbs*x.den):=Bo l.1 k.2;have D:fits (x.num.natAbs*y.den+y.num.natAbs*x.den):=FU k.1 l.2 l.1 k.2;have j:Bp a b=cmpQ x y:=by unfold Bp;rw[h,g]
   rw[j,MF x y];have c3:=λi=>DR _ _ i (BF k) (Bc l) B;have c4:=λi=>DR _ _ i (BF l) (Bc k) C;have c5:=λi=>Qp (negQ x) (!negQ y) _ _ i D;generalize sumF (negQ x) (x.num.natAbs*y.den) (!negQ y) (y.num.natAbs*x.den)=r at *;obtain⟨I,F⟩:=r;have A:=Lb F;simp only at c5 A ⊢;replace c3:=qh c3;replace c4:=qh c4;replace c5:=qh c5;clear h g j k l B C D;by_cases m:F=0;rw[decide_eq_true m]at A;rw[ifp m];clear m
   rotate_left
   rw[decide_eq_false m]at A;rw[ifn m];clear m;cases I;simp only[Bool.false_eq_true,if_false]
   rotate_left
   simp only[if_true]
   all_goals
    go_enter func114,ntmps114
    go_wp2_with fail
    refine nxa (p.o _) λG c=>?_
    go_wp2_with fail
    refine nxb (o.o _) c λH d=>?_
    go_wp2_with fail
    refine nxb (c3.o _) d λJ s=>?_
    go_wp2_with fail
    refine nxb (c4.o _) s λK u=>?_
    go_wp2_with fail
    refine nxb (c5.o _) u λL z=>?_;go_wp2;go_ret;exact⟨rfl,z.o⟩
def JI{q:Rat}(h:fitQ q):fitQ (-q):=FT.2<|szQ.neg (FT.1 h)
def YZ(a b:ByteArray)(w:World)(l:a.size<=9223372036854775807)(hb:b.size<=9223372036854775807):
  Calls prog 214 #[.string a,.string b] w (PairEnd (Cd a b) w):=by
 have c1:=λo=>YY b o hb;have c2:=λo=>QC a o l;cases d:prs b with
 |none =>
  have j:negF b=(str [],1):=by unfold negF;rw[d]
  have g:Cd a b=(str [],1):=by unfold Cd;rw[d];cases prs a<;>rfl
  rw[g];rw[j]at c1;have k:=qh c1;clear c1 c2 d j g l hb
  go_enter func214,ntmps214
  go_wp2_with fail
  refine nxa (k.o _) λz c=>?_;go_wp2;go_ret2;exact⟨rfl,c.o⟩
 |some y =>
  have m:=(AX d).2;have j:negF b=(txt (-y),0):=by unfold negF;rw[d];exact CZ<|JI m
  rw[j]at c1;cases i:prs a with
  |none =>
   have g:Cd a b=(str [],1):=by unfold Cd;rw[i]
   rw[g];rw[i]at c2;simp only[Option.isSome]at c2;generalize txt (-y)=ty at *;have k:=qh c1;clear c1;have p:=qh c2;clear c2 i d j g m l hb
   go_enter func214,ntmps214
   go_wp2_with fail
   refine nxa (k.o _) λz c=>?_
   go_wp2_with fail
   refine nxb (p.o _) c λB h=>?_;go_wp2;go_ret2;exact⟨rfl,h.o⟩
  |some x =>
   have u:=Bm<|JI m;have A:=Di<|JI m;have g:Cd a b=Be a (txt (-y)):=by unfold Cd Be;rw[i,d,u];simp only;rw[Rat.sub_eq_add_neg]
   rw[g];rw[i]at c2;simp only[Option.isSome]at c2;have c3:=λo=>KY a (txt (-y)) o l (by omega);generalize Be a (txt (-y))=lr at *;obtain⟨ls,C⟩:=lr;generalize txt (-y)=ty at *;have k:=qh c1;clear c1;have p:=qh c2;clear c2;replace c3:=qh c3;clear i d j g m l hb u A
   go_enter func214,ntmps214
   go_wp2_with fail
   refine nxa (k.o _) λz c=>?_
   go_wp2_with fail
   refine nxb (p.o _) c λB h=>?_
   go_wp2_with fail
   refine nxb (c3.o _) h λD s=>?_;go_wp2;go_ret2;exact⟨rfl,s.o⟩
end
end Go.Proofs.YteappjogmnogcaaGreatDoor
