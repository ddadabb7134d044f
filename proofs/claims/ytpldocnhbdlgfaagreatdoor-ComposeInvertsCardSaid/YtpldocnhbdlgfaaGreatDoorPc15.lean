/- Parts. -/
import Derived.Test.YtpldocnhbdlgfaaGreatDoorPc11
import Derived.Test.YtpldocnhbdlgfaaGreatDoorPc13
namespace Go.Proofs.YtpldocnhbdlgfaaGreatDoor
set_option maxRecDepth 100000
set_option linter.all false
set_option maxHeartbeats 16000000
open Go Tryz
section
open Go.RowKit
variable{L d xs:List Nat}{c i l x y:Nat}
def RS(h:Dig L)(j v:Nat)(d:v<10):Dig (L.set j v):=λi=>by
 by_cases c:j<L.length
 ·rw[Fh L j v i c];split
  ·exact d
  exact h i
 rw[List.set_eq_of_length_le (by omega)];exact h i
def Sg(L:List Nat):∀(j v:Nat),j<L.length->dval (L.set j v)+10 ^ j*nth L j=dval L+10 ^ j*v:=by
 induction L with
 |nil=>intro j v h;simp at h
 |cons x L ih =>
  intro j v h;cases j with
  |zero=>simp only[List.set_cons_zero,dval,JB,Nat.pow_zero];omega
  |succ j =>
   have:=ih j v (by simpa using h);simp only[List.set_cons_succ,dval,Hf,Nat.pow_succ];have e:10*(dval (L.set j v)+10 ^ j*nth L j)=10*(dval L+10 ^ j*v):=by rw[this]
   rw[Nat.mul_add,Nat.mul_add,<-Nat.mul_assoc,<-Nat.mul_assoc,Nat.mul_comm 10 (10 ^ j)]at e;omega
theorem Nt(k i:Nat):nth (List.replicate k 0) i=0:=by unfold nth;simp[List.getD_eq_getElem?_getD,List.getElem?_replicate];split<;>rfl
structure MulIR(xs ys L:List Nat)(i k c:Nat):Prop where
 dig:Dig L
 carry:c<10
 len:L.length=xs.length+ys.length+1
 val:dval L+10 ^ (i+k)*c=dval (xs.take i)*dval ys+10 ^ i*(nth xs i*dval (ys.take k))
structure MulOR(xs ys L:List Nat)(i:Nat):Prop where
 dig:Dig L
 len:L.length=xs.length+ys.length+1
 val:dval L=dval (xs.take i)*dval ys
theorem MulOR.start(xs c:List Nat):MulOR xs c (List.replicate (xs.length+c.length+1) 0) 0 :=
 ⟨λi=>by rw[Nt];omega,by simp,by rw[Mj (Nt _)];simp[dval]⟩
def MulOR.inner{c:List Nat}(h:MulOR xs c L i):MulIR xs c L i 0 0 :=
 ⟨h.dig,by omega,h.len,by rw[h.val];simp[dval]⟩
def Ur(d:l<10)(g:c<10)(h:x<10)(i:y<10):l+x*y+c<100:=by
 have:x*y<=9*9:=Nat.mul_le_mul (by omega) (by omega);omega
def MulIR.step{k:Nat}(h:MulIR xs d L i k c)(C:Dig xs)(D:Dig d)(hi:i<xs.length)(E:k<d.length+1)(u:l=nth L (i+k))(o:x=nth xs i)(z:y=nth d k):
  MulIR xs d (L.set (i+k) ((l+x*y+c) % 10)) i (k+1) ((l+x*y+c) / 10):=by
 have hb:=Ur (h.dig (i+k)) h.carry (C i) (D k);have s:i+k<L.length:=by rw[h.len];omega
 have g:=Sg L (i+k) ((l+x*y+c) % 10) s;have m:=h.val;have j:=ET d k;rw[<-u,<-o,<-z]at hb;rw[<-u]at g;rw[<-z]at j;rw[<-o]at m;generalize hp:l+x*y+c=p at *;have A:10 ^ (i+k)*l+10 ^ (i+k)*(x*y)+10 ^ (i+k)*c=10 ^ (i+k)*p:=by rw[<-hp,Nat.mul_add,Nat.mul_add]
 have B:10 ^ (i+k)*p=10 ^ (i+k)*(p % 10)+10 ^ (i+k)*10*(p / 10):=by
  rw[Nat.mul_assoc,<-Nat.mul_add,Nat.mod_add_div]
 refine⟨RS h.dig _ _ (by omega),by omega,by simp[h.len],?_⟩;rw[j,Nat.mul_add,Nat.mul_add,show i+(k+1)=i+k+1 by omega,Nat.pow_succ 10 (i+k),<-o];have e:10 ^ i*(x*(10 ^ k*y))=10 ^ (i+k)*(x*y):=by
  rw[Nat.pow_add,Nat.mul_left_comm x,Nat.mul_assoc]
 rw[e];omega
def MulIR.done(h:MulIR xs d L i (d.length+1) c)(m:Dig xs)(o:Dig d)(hi:i<xs.length):MulOR xs d L (i+1):=by
 refine⟨h.dig,h.len,?_⟩;have g:=h.val;rw[List.take_of_length_le (by omega:d.length<=d.length+1)]at g;have e:dval (xs.take i)*dval d+10 ^ i*(nth xs i*dval d)=dval (xs.take (i+1))*dval d:=by
  rw[ET,Nat.add_mul,Nat.mul_assoc]
 rw[e]at g;have k:dval (xs.take (i+1))<10 ^ (i+1):=by
  have:=FD<|GL m (i+1);rw[List.length_take,Nat.min_eq_left (by omega)]at this;exact this
 have p:=FD o;have l:dval (xs.take (i+1))*dval d<10 ^ (i+1)*10 ^ d.length:=by
  have s:dval (xs.take (i+1))*dval d<=dval (xs.take (i+1))*10 ^ d.length:=Nat.mul_le_mul_left _ (by omega);have u:dval (xs.take (i+1))*10 ^ d.length<10 ^ (i+1)*10 ^ d.length:=Nat.mul_lt_mul_of_pos_right k (Nat.pow_pos (by omega));omega
 rw[<-Nat.pow_add,show i+1+d.length=i+(d.length+1) by omega]at l
 rcases Nat.eq_zero_or_pos c with j|j
 ·subst j;rw[Nat.mul_zero,Nat.add_zero]at g;exact g
 have:10 ^ (i+(d.length+1))*1<=10 ^ (i+(d.length+1))*c:=Nat.mul_le_mul_left _ j;omega
def MulOR.done{c:List Nat}(h:MulOR xs c L xs.length):dval L=dval xs*dval c:=by rw[h.val,List.take_length]
set_option maxRecDepth 100000 in
theorem Wb(s t:ByteArray)(w:World)(hs:s.size<=maxLen)(ht:t.size<=maxLen):
  Calls prog 175 #[.string s,.string t] w (PairEnd (mulF s t) w):=by
 have c1:=λw=>Ck s w hs;have c2:=λw=>Ck t w ht;clear hs ht;cases G:vld s with
 |false =>
  have Y:mulF s t=(str [],1):=by unfold mulF;rw[G];rfl
  rw[Y];unfold vld at G;rw[G]at c1;clear Y G c2;have C1:=qh c1;clear c1
  go_enter func175,ntmps175
  go_wp2_with fail
  refine(C1.o _).mono ?_;rintro e w'⟨rfl,rfl⟩;go_wp2;go_ret2;exact⟨rfl,blr⟩
 |true =>
  cases I:vld t with
  |false =>
   have Y:mulF s t=(str [],1):=by unfold mulF;rw[G,I];rfl
   rw[Y];unfold vld at G I;rw[G]at c1;rw[I]at c2;clear Y G I;have C1:=qh c1;clear c1;have C2:=qh c2;clear c2
   go_enter func175,ntmps175
   go_wp2_with fail
   refine(C1.o _).mono ?_;rintro e w'⟨rfl,rfl⟩
   go_wp2_with fail
   refine(C2.o _).mono ?_;rintro e w'⟨rfl,rfl⟩;go_wp2;go_ret2;exact⟨rfl,blr⟩
  |true =>
   rw[show Aq (bts s)=true from G]at c1;rw[show Aq (bts t)=true from I]at c2;have C1:=qh c1;clear c1;have C2:=qh c2;clear c2;have H1:=qh G;clear G;replace I:=qh I;have Y:mulF s t=limS (val s*val t):=by unfold mulF;rw[H1.o,I.o];rfl
   rw[Y];clear Y;have d1:=λw=>Ec s w (by have:=BH H1.o;omega) (Ba H1.o).2.2.2;replace d1:=qh d1;have d2:=λw=>Ec t w (by have:=BH I.o;omega) (Ba I.o).2.2.2;replace d2:=qh d2;have o1:=Cq (Ba H1.o).2.2.2;have o2:=Cq (Ba I.o).2.2.2;have e2:=(BH H1.o).2;have e4:=(BH I.o).2;have n1:=Cc<|bts s;have n2:=Cc<|bts t;rw[Ao]at n1 n2;obtain⟨j,U⟩:=exq<|digL (bts s);obtain⟨g,W⟩:=exq<|digL (bts t);rw[<-U]at o1 n1;rw[<-W]at o2 n2;have g2:j.length<=1000:=by omega
   have g3:g.length<=1000:=by omega
   replace o1:=qh o1;replace o2:=qh o2;replace U:=qh U;replace W:=qh W;clear e2 e4 n1 n2
   go_enter func175,ntmps175
   go_wp2_with fail
   refine(C1.o _).mono ?_;rintro e w'⟨rfl,rfl⟩
   go_wp2_with fail
   refine(C2.o _).mono ?_;rintro e w'⟨rfl,rfl⟩
   go_wp2_with fail
   refine(d1.o w).mono ?_;rintro e w1⟨v1,rfl,O,S⟩;rw[<-U.o]at O;obtain⟨ax,cx,rfl⟩:=O.shape;replace O:=qh O;replace S:=qh S;have e6:=S.o.size
   go_wp2_with fail
   refine(d2.o w1).mono ?_;rintro e R⟨v2,rfl,P,a4⟩;rw[<-W.o]at P;obtain⟨ay,cy,rfl⟩:=P.shape;replace P:=qh P;have H:=S.o.trans<|a4.mono e6;have b2:=O.o.sl.below a4 nlr;replace H:=qh H;clear a4;have h0:=H.o.size;replace b2:=qh b2;have b3:=P.o.sl;replace b3:=qh b3;obtain⟨i0,e7,e8,e9,f0⟩:=info_parts GO;obtain⟨wm,d3,d,a8⟩:=run_make_full R w.heap.size 26 3 i0 (.int .i64 0) 1 underlying26 e7 e8 e9 .i64 .i64 (j.length+g.length+1) (by rw[f0];omega) (by unfold maxLen;omega) (by omega);rw[show ((j.length+g.length+1:Nat):Int)=(j.length:Int)+(g.length:Int)+1 by omega]at d3;have K:Below R.heap.size R wm:=blr.grown a8 nlr (by simp);have a6:Below w.heap.size w wm:=H.o.trans<|blr.grown a8 (by omega) (by simp);have a1:Own wm w.heap.size 3 .i64 (.slice (some (Ad R.heap.size 0)) (j.length+g.length+1) (j.length+g.length+1)) (List.replicate (j.length+g.length+1) 0):=by
    unfold Own;rw[KQ,List.length_replicate];have:=d;rw[Nat.mul_one,show (Value.int .i64 0).cells=#[Value.int .i64 0] from rfl,toList_madeCells_one]at this;exact this
   replace a6:=qh a6;replace K:=qh K;replace a1:=qh a1;clear d a8;obtain⟨f7,f8,bx,ox,d4,a2,f1,b9,T,o⟩:=b2.o.open;rw[Value.slice.injEq]at d4;obtain⟨rfl,_,rfl⟩:=d4;unfold maxLen at b9;replace o:=qh o;replace a2:=qh a2;have d7:=qh T;clear T
   go_wp2_with fail
   clear d3
   go_loopw [9] (λi wr=>∃(k:Nat) (L:List Nat),k<=j.length/\i=.int .i64 (k:Int)/\MulOR j g L k/\Own wr w.heap.size 3 .i64 (.slice (some (Ad R.heap.size 0)) (j.length+g.length+1) (j.length+g.length+1)) L/\Below w.heap.size w wr/\Below R.heap.size R wr) (λi _=>j.length-(intOf i).toNat)
   case atStart=>exact⟨0,_,Nat.zero_le _,rfl,MulOR.start j g,a1.o,a6.o,K.o⟩
   obtain⟨i,L,g0,rfl,A,d,N,u⟩:=hrel;have b6:=qh A;clear A;have HO:=qh d;clear d;have Z:=qh N;clear N;have b5:=qh u;clear u;obtain⟨wo,rfl⟩:∃wo:World,wo=wr:=⟨_,rfl⟩;by_cases b0:i<j.length
   ·obtain rfl:=a2.o (by omega);have T:=d7.o (by omega)
    go_wp2_with fail
    go_loopw [10,11] (λc q wr=>∃(k C:Nat) (L:List Nat),k<=g.length+1/\q=.int .i64 (k:Int)/\c=.int .i64 (C:Int)/\MulIR j g L i k C/\Own wr w.heap.size 3 .i64 (.slice (some (Ad R.heap.size 0)) (j.length+g.length+1) (j.length+g.length+1)) L/\Below w.heap.size w wr/\Below R.heap.size R wr) (λ_ q _=>g.length+1-(intOf q).toNat)
    case atStart=>exact⟨0,0,L,Nat.zero_le _,rfl,rfl,b6.o.inner,HO.o,Z.o,b5.o⟩
    obtain⟨k,C,L',g1,rfl,rfl,D,d,N,u⟩:=hrel;replace D:=qh D;have J:=qh d;clear d;have X:=qh N;clear N;have m:=qh u;clear u;by_cases f5:k<=g.length
    ·have z:=D.o.len;have cl:=J.o.cell z (i+k) (by omega);have fl:=J.o.free z (i+k);replace z:=qh z;have c1:=(m.o.cell (p:=(Ad bx (ox+i))) T).trans (o.o i b0);obtain⟨x,hx⟩:=exq<|nth j i;obtain⟨y,hy⟩:=exq<|nth g k;obtain⟨l,hl⟩:=exq<|nth L' (i+k);rw[<-hl]at cl;rw[<-hx]at c1;have E:=D.o.step o1.o.1 o2.o.1 b0 (by omega) hl hx hy;replace E:=qh E;have e3:(x:Int)<=9:=by have:=o1.o.1 i;rw[<-hx]at this;omega
     have e5:(y:Int)<=9:=by have:=o2.o.1 k;rw[<-hy]at this;omega
     have d9:(l:Int)<=9:=by have:=D.o.dig<|i+k;rw[<-hl]at this;omega
     have d8:(C:Int)<=9:=by have:=D.o.carry;omega
     have B:((x:Int)*(y:Int))=((x*y:Nat):Int):=by simp
     have e0:x*y<=9*9:=Nat.mul_le_mul (by omega) (by omega);have g5:(x:Int)*(y:Int)<=81:=by rw[B];omega
     have g4:0<=(x:Int)*(y:Int):=by rw[B];omega
     have a7:(((l:Int)+(x:Int)*(y:Int)+(C:Int)) % 10)=(((l+x*y+C) % 10:Nat):Int):=by rw[B];omega
     have b8:(((l:Int)+(x:Int)*(y:Int)+(C:Int)) / 10)=(((l+x*y+C) / 10:Nat):Int):=by rw[B];omega
     replace a7:=qh a7;have b1:wrap64 (((l:Int)+(x:Int)*(y:Int)+(C:Int)).tdiv 10)=(((l+x*y+C) / 10:Nat):Int):=by
      rw[Int.tdiv_eq_ediv_of_nonneg (by omega),b8,<-IntWalk.i64_left,IntKind.wrap_i64];omega
     replace b1:=qh b1;clear b8 B e0;replace hx:=qh hx;replace hy:=qh hy;replace hl:=qh hl;have b4:=b3.o.below m.o nlr;replace b4:=qh b4;have d5:(i:Int)<=1000:=by omega
     have d6:(k:Int)<=1000:=by omega
     have g6:IntKind.i64.wrap ((i:Int)+(k:Int))=(i:Int)+(k:Int):=by rw[IntKind.wrap_i64];omega
     have g7:IntKind.i64.wrap ((x:Int)*(y:Int))=(x:Int)*(y:Int):=by rw[IntKind.wrap_i64];omega
     have g8:IntKind.i64.wrap ((l:Int)+(x:Int)*(y:Int))=(l:Int)+(x:Int)*(y:Int):=by rw[IntKind.wrap_i64];omega
     have g9:IntKind.i64.wrap ((l:Int)+(x:Int)*(y:Int)+(C:Int))=(l:Int)+(x:Int)*(y:Int)+(C:Int):=by rw[IntKind.wrap_i64];omega
     clear e3 e5 d9 d8;have f2:0<=(i:Int)+(k:Int):=by omega
     have f3:(i:Int)+(k:Int)<(j.length:Int)+(g.length:Int)+1:=by omega
     have f4:((i:Int)+(k:Int)).toNat=i+k:=by omega
     go_wp2_with fail
     go_quiet ((go_at_call 205;exact Calls.quiet_of_same ((Ey _ g k _ (b4.o.below (below_drewN (Below.refl _ wr) _) nlr) (by omega)).mono λe w' h=>⟨by rw[h.1,<-hy.o],h.2.symm⟩)))
     go_wp2;go_roundw
     case rel =>
      have ho:=(J.o.kept (below_drewN (Below.refl _ wr) nq) nlr).set z.o (i+k) ((l+x*y+C) % 10);exact⟨k+1,(l+x*y+C) / 10,L'.set (i+k) ((l+x*y+C) % 10),by omega,by go_num,by rw[b1.o],E.o,by rw[a7.o];exact ho,(below_drewN X.o nq).setCell J.o.base.1 _,(below_drewN m.o nq).setCell nlr _⟩
     simp[intOf];omega
    have a9:k=g.length+1:=by omega
    replace a9:=qh a9;have f9:g.length<k:=by omega
    go_wp2;go_roundw
    case rel =>
     have G:=D.o;rw[a9.o]at G;exact⟨i+1,L',by omega,by go_num,G.done o1.o.1 o2.o.1 b0,J.o,X.o,m.o⟩
    simp[intOf];omega
   have d0:i=j.length:=by omega
   have A:=b6.o;rw[d0]at A;clear d0;have Q:=A.done;rw[o1.o.2,o2.o.2]at Q;have F:dval L=val s*val t:=Q;clear Q;replace F:=qh F;have e1:=Z.o.size;have q3:=Hw (.slice (some (Ad R.heap.size 0)) (j.length+g.length+1) (j.length+g.length+1)) L wo (by have:=HO.o.sl;exact this) A.dig (by rw[A.len];omega);rw[F.o]at q3;replace q3:=qh q3;clear A
   go_wp2_with fail
   refine q3.o.mono ?_;rintro e w4⟨rfl,b7⟩;have a5:=Z.o.trans<|b7.mono e1;replace a5:=qh a5;clear b7
   go_wp2_with fail
   refine(Od (val s*val t) w4).mono ?_;rintro e w5⟨rfl,rfl⟩;go_wp2;go_ret2;exact⟨rfl,a5.o⟩
variable{d j k m n:Nat}
structure DivI(l:List UInt8)(n:Nat)(qb:List UInt8)(rn i:Nat):Prop where
 len:qb.length=i
 dig:dgts qb=true
 lt:rn<n
 val:num qb*n+rn=num (l.take i)
theorem DivI.start(l:List UInt8)(h:n≠0):DivI l n [] 0 0:=⟨rfl,rfl,by omega,by simp[num]⟩
def RQ(h:j<10):dgt (byteOf j)=true:=by simp only[dgt,byteOf_toNat h];simp;omega
def DivI.step{l:List UInt8}{g:List UInt8}{i:Nat}{c:UInt8}(h:DivI l n g k i)(p:l.take (i+1)=l.take i++[c])(o:m<n)(d:j<10)(s:m+j*n=10*k+(c.toNat-48)):
  DivI l n (g++[byteOf j]) m (i+1):=by
 refine⟨by rw[List.length_append,h.len];rfl,by rw[DV,h.dig,RQ d];rfl,o,?_⟩;rw[Dn,p,Dn,<-h.val,byteOf_toNat d,show 48+j-48=j by omega,Nat.add_mul,Nat.mul_add,Nat.mul_assoc];omega
def DivI.j_lt{c:Nat}(i:c<n)(hd:d<10)(g:m+j*n=10*c+d):j<10:=by
 rcases Nat.lt_or_ge j 10 with h|h
 ·exact h
 have:10*n<=j*n:=Nat.mul_le_mul_right _ h;omega
def SL(s:ByteArray)(i:Nat)(h:i<s.size):s.extract i (i+1)=str [s[i]]:=Dh (by
 rw[AI];simp only[bts,ByteArray.data_extract,Array.toList_extract,List.extract_eq_take_drop];rw[show i+1-i=1 by omega,List.drop_eq_getElem_cons (by rw[show s.data.toList.length=s.size from Ao s];exact h),List.take_succ_cons,List.take_zero];rfl)
def VG{c:UInt8}(h:dgt c=true):str [c]=str (dec (10*0+(c.toNat-48))):=by
 simp only[dgt,Bool.and_eq_true,decide_eq_true_eq]at h;rw[Bv (by omega),Ik (c:=c) (by omega)]
theorem VH{c:UInt8}(h:dgt c=true)(g:d≠0):str (dec d)++str [c]=str (dec (10*d+(c.toNat-48))):=by
 simp only[dgt,Bool.and_eq_true,decide_eq_true_eq]at h;rw[Eo (n:=10*d+(c.toNat-48)) (by omega),show (10*d+(c.toNat-48)) / 10=d by omega,Ik (c:=c) (by omega)];exact Dh (by simp[bts,str])
def RJ(hn:(dec n).length<=k)(c:m<n)(hd:d<10):(dec (10*m+d)).length<=k+1:=by
 have:=(BJ.1 hn).1;exact BJ.2 ⟨by rw[Nat.pow_succ];omega,by omega⟩
def IP(h:m<=n)(hn:(dec n).length<=k):(dec m).length<=k:=by
 have:=BJ.1 hn;exact BJ.2 ⟨by omega,this.2⟩
def RN(h:n<=m):(dec n).length<=(dec m).length:=IP h nlr
def strN(v:Value):Nat:=match v with | .string s=>val s|_=>0
theorem OR(n:Nat):strN (.string (str (dec n)))=n:=AB n
structure Strip(l:List UInt8)(k:Nat):Prop where
 lt:k+1<=l.length
 val:num (l.drop k)=num l
def Strip.step{l:List UInt8}(h:Strip l k)(g:k+1<l.length)(d:l[k].toNat=48):Strip l (k+1):=by
 refine⟨by omega,?_⟩;rw[<-h.val,List.drop_eq_getElem_cons (i:=k) (by omega)];generalize l.drop (k+1)=x;show num x=List.foldl (λn c=>10*n+(c.toNat-48)) (10*0+(l[k].toNat-48)) x;rw[d];rfl
def OS{l:List UInt8}(h:Strip l k)(hd:dgts l=true)(j:l.length<=1000)(g:k+1=l.length\/l[k]'(by have:=h.lt;omega)≠48):l.drop k=dec (num l):=by
 have c:=h.lt;rw[<-h.val];refine(BV (Im (by rw[List.length_drop];omega) (by rw[List.length_drop];omega) ?_ ?_)).symm
 ·rcases g with h|h
  ·left;rw[List.length_drop];omega
  right;rw[List.drop_eq_getElem_cons (i:=k) (by omega),List.headD_cons];exact h
 unfold dgts at *;rw[List.all_eq_true]at *;intro x d;exact hd x (List.mem_of_mem_drop d)
set_option maxRecDepth 100000 in
theorem NX(s t:ByteArray)(w:World)(hs:s.size<=maxLen)(ht:t.size<=maxLen):
  Calls prog 177 #[.string s,.string t] w (TripEnd (divF s t) w):=by
 have c1:=λw=>Ck s w hs;have c2:=λw=>Ck t w ht;clear hs ht;cases G:vld s with
 |false =>
  have hr:divF s t=(str [],str [],1):=by unfold divF;rw[G];rfl
  rw[hr];unfold vld at G;rw[G]at c1;clear hr G c2;have C1:=qh c1;clear c1
  go_enter func177,ntmps177
  go_wp2_with fail
  refine(C1.o _).mono ?_;rintro e w'⟨rfl,rfl⟩;go_wp2
  go_ret3
  exact⟨rfl,blr⟩
 |true =>
  cases H:vld t with
  |false =>
   have hr:divF s t=(str [],str [],1):=by unfold divF;rw[G,H];rfl
   rw[hr];unfold vld at G H;rw[G]at c1;rw[H]at c2;clear hr G H;have C1:=qh c1;clear c1;have C2:=qh c2;clear c2
   go_enter func177,ntmps177
   go_wp2_with fail
   refine(C1.o _).mono ?_;rintro e w'⟨rfl,rfl⟩
   go_wp2_with fail
   refine(C2.o _).mono ?_;rintro e w'⟨rfl,rfl⟩;go_wp2
   go_ret3
   exact⟨rfl,blr⟩
  |true =>
   rw[show Aq (bts s)=true from G]at c1;rw[show Aq (bts t)=true from H]at c2;have C1:=qh c1;clear c1;have C2:=qh c2;clear c2;replace G:=qh G;replace H:=qh H;have d2:=λw=>Ec t w (by have:=BH H.o;omega) (Ba H.o).2.2.2;replace d2:=qh d2;have e2:=(EB H.o);replace e2:=qh e2;have d4:(dec (val t)).length<=1000:=FF H.o;replace d4:=qh d4;have i4:(s.size:Int)<=1000:=by have:=(BH G.o).2;omega
   have l7:(1:Int)<=(s.size:Int):=by have:=(BH G.o).1;omega
   by_cases hz:val t=0
   ·have hr:divF s t=(str [],str [],4):=by unfold divF;rw[G.o,H.o,ifp hz];rfl
    rw[hr];clear hr;have i6:=My H.o hz;clear hz
    go_enter func177,ntmps177
    go_wp2_with fail
    refine(C1.o _).mono ?_;rintro e w'⟨rfl,rfl⟩
    go_wp2_with fail
    refine(C2.o _).mono ?_;rintro e w'⟨rfl,rfl⟩
    go_wp2_with fail
    go_ret3
    exact⟨rfl,blr⟩
   have hr:divF s t=(str (dec (val s / val t)),str (dec (val s % val t)),0):=by unfold divF;rw[G.o,H.o,ifn hz];rfl
   rw[hr];clear hr;have i6:(t.toList==[48])=false:=beq_eq_false_iff_ne.2<|He hz;replace hz:=qh hz;obtain⟨i0,hi,k7,i7,i8⟩:=info_parts Mx
   go_enter func177,ntmps177
   go_wp2_with fail
   refine(C1.o _).mono ?_;rintro e w'⟨rfl,rfl⟩
   go_wp2_with fail
   refine(C2.o _).mono ?_;rintro e w'⟨rfl,rfl⟩
   go_wp2_with fail
   clear i6
   go_loopw [7,8,9] (λv r i wr=>∃(k rn:Nat) (z:List UInt8),k<=s.size/\i=.int .i64 (k:Int)/\r=.string (str (dec rn))/\DivI (bts s) (val t) z rn k/\Own wr w.heap.size 5 .u8 v (z.map (·.toNat))/\Below w.heap.size w wr) (λ_ _ i _=>s.size-(intOf i).toNat)
   case atStart=>exact⟨0,0,[],Nat.zero_le _,rfl,by rw[Bv (by omega)];rfl,DivI.start _ hz.o,Own.nil _ _ _ _,blr⟩
   obtain⟨k,rn,z,hk,rfl,rfl,h,l,hb⟩:=hrel;have o:(z.map (·.toNat)).length=k:=by rw[List.length_map];exact h.len
   replace h:=qh h;obtain⟨ad,d0,rfl⟩:=l.shape;rw[o]at l ⊢;replace l:=qh l;have HB:=qh hb;clear hb;have m5:=HB.o.size;replace o:=qh o;obtain⟨wo,rfl⟩:∃wo:World,wo=wr:=⟨_,rfl⟩;by_cases d6:k<s.size
   ·have J:dgt s[k]=true:=by
     have:=IR (Ba G.o).2.2.2 k (by rw[Ao];exact d6);rw[IH s k d6]at this;simp only[dgt];simp;exact this
    have Z:=SL s k d6;have e1:=Fq s k d6;obtain⟨c,Y⟩:=exq<|s[k];rw[<-Y]at J Z e1;replace J:=qh J;replace Z:=qh Z;replace e1:=qh e1;clear Y;obtain⟨m0,K⟩:∃m0,m0=10*rn+(c.toNat-48):=⟨_,rfl⟩;have g2:(dec m0).length<=1001:=by
     have:=J.o;simp only[dgt,Bool.and_eq_true,decide_eq_true_eq]at this;rw[K];exact RJ d4.o h.o.lt (by omega)
    replace g2:=qh g2;replace K:=qh K;by_cases a7:rn=0;have i3:(str (dec rn)).toList=[48]:=by rw[a7,Lib.toList_data,Bv (by omega)];rfl
    have F:s.extract k (k+1)=str (dec m0):=by rw[Z.o,K.o,a7];exact VG J.o
    have e5:=qh F;clear F a7
    rotate_left
    have i3:((str (dec rn)).toList==[48])=false:=beq_eq_false_iff_ne.2 (He (by rw[AB];exact a7));have F:str (dec rn)++s.extract k (k+1)=str (dec m0):=by rw[Z.o,K.o];exact VH J.o a7
    have e5:=qh F;clear F a7;have m4:((str (dec rn)).size:Int)<=8388608:=by rw[AF];have:=IP (Nat.le_of_lt h.o.lt) d4.o;omega
    have m3:((s.extract k (k+1)).size:Int)<=8388608:=by rw[Z.o,AF];simp
    all_goals
     go_wp2_with fail
     rw[e5.o];clear i3
     go_loopw [8,10] (λr d wq=>∃(m j:Nat),r=.string (str (dec m))/\d=.int .u8 (48+(j:Int))/\m+j*val t=m0/\Below w.heap.size w wq/\Below wo.heap.size wo wq) (λr _ _=>strN r)
     case atStart=>exact⟨m0,0,rfl,by go_num,by omega,HB.o,blr⟩
     obtain⟨m,j,rfl,rfl,a2,b0,C⟩:=hrel;replace a2:=qh a2;replace b0:=qh b0;replace C:=qh C;have f5:=b0.o.size;have b8:=C.o.size;have j8:(dec m).length<=1001:=IP (by have:=a2.o;omega) g2.o;have h7:c.toNat-48<10:=by have:=J.o;simp only[dgt,Bool.and_eq_true,decide_eq_true_eq]at this;omega
     have W:=DivI.j_lt h.o.lt h7 (a2.o.trans K.o);clear h7;have l8:(j:Int)<=9:=by omega
     replace W:=qh W;have Y:=JX m (val t) wr (by omega);rw[e2.o]at Y;unfold CmpEnd at Y;by_cases u:m<val t
     ·rw[Co u]at Y;have HC:=qh Y;clear Y;have g8:=qh u;clear u
      go_wp2_with fail
      refine HC.o.mono ?_;rintro e w3⟨rfl,I⟩;have A:=b0.o.trans<|I.mono f5;have B:=C.o.trans<|I.mono b8;have e0:=l.o.kept B nlr;have b6:w3.ownsRow w.heap.size 5 1 (.slice ad k d0) k (vals .u8 (z.map (·.toNat))):=by have:=e0.raw;rwa [o.o]at this
      replace b6:=qh b6;replace e0:=qh e0;have a9:=qh A;clear A B I;have i5:=a9.o.size;have g0:(48+(j:Int))=((48+j:Nat):Int):=by omega
      replace g0:=qh g0;have g3:(z++[byteOf j]).map (·.toNat)=z.map (·.toNat)++[48+j]:=by rw[List.map_append];simp[byteOf_toNat W.o]
      replace g3:=qh g3
      go_wp2_with (at_builtin;refine wpList_append_own _ rfl (.tmp 54) (.tmp 56) 217 rfl w.heap.size 5 i0 (.int .u8 0) 1 1 underlying217 hi k7 i7 i8 rfl (by decide) _ _ _ rfl (World.ownsRow.alloc b6.o _) (Ad w3.heap.size 0) 1 1 [.int .u8 (48+(j:Int))] rfl rfl (cell_one_new _ _ _) (one_cell _ _) (by unfold maxLen;omega) (by omega) (by simp;omega) ?_;intro v' w1 L U _)
      rw[g0.o]at L;obtain⟨ho,hb⟩:=e0.o.appended a9.o i5 (by rw[o.o];exact L) U;clear L U;rw[<-g3.o]at ho;replace ho:=qh ho;have j0:=qh hb;clear hb
      try go_wp2
      go_roundw
      case rel=>exact⟨k+1,m,z++[byteOf j],by omega,by go_num,rfl,h.o.step e1.o g8.o W.o (a2.o.trans K.o),ho.o,j0.o⟩
      simp[intOf];omega
     have j4:(0:Int)<=cmpN m (val t):=by unfold cmpN;rw[ifn u];split<;>decide
     obtain⟨cc,h6⟩:=exq<|cmpN m (val t);rw[<-h6]at j4 Y;clear h6;have HC:=qh Y;clear Y;have a1:val t<=m:=Nat.le_of_not_lt u;replace a1:=qh a1;clear u;have b1:(digL (bts t)).length<=(digL (dec m)).length:=by
      rw[Cc,Cc,Ao,<-e2.o,AF];exact RN a1.o
     have D:dval (digL (dec m))=m:=by rw[(Cq (CV m)).2,CH]
     have E:dval (digL (bts t))=val t:=(Cq (Ba H.o).2.2.2).2;have R:=(Cq (CV m)).1;have S:=(Cq (Ba H.o).2.2.2).1;have j9:(digL (dec m)).length<=1001:=by rw[Cc];exact j8
     have D1:=qh<|Ec (str (dec m));obtain⟨xs,e3⟩:=exq<|digL (dec m);obtain⟨ys,e4⟩:=exq<|digL (bts t);rw[<-e3]at b1 D R j9;rw[<-e4]at b1 E S;replace e3:=qh e3;replace e4:=qh e4;replace b1:=qh b1;replace D:=qh D;replace E:=qh E;replace R:=qh R;replace S:=qh S
     go_wp2_with fail
     refine HC.o.mono ?_;rintro e w3⟨rfl,I⟩;have A:=b0.o.trans<|I.mono f5;have B:=C.o.trans<|I.mono b8;have a9:=qh A;have h0:=qh B;clear A B I;have k9:=a9.o.size;have k0:=h0.o.size
     go_wp2_with fail
     have q4:=D1.o w3 (by rw[AF];omega) (by rw[AI];exact CV m);rw[AI,<-e3.o]at q4;refine q4.mono ?_;clear q4;rintro e w4⟨v4,rfl,d7,f7⟩;obtain⟨a4,c4,rfl⟩:=d7.shape;replace d7:=qh d7;have e6:=a9.o.trans<|f7.mono k9;have e7:=h0.o.trans<|f7.mono k0;have g5:=qh e6;have h3:=qh e7;clear e6 e7 f7;have l0:=g5.o.size;have k4:=h3.o.size
     go_wp2_with fail
     have q5:=d2.o w4;rw[<-e4.o]at q5;refine q5.mono ?_;clear q5;rintro e w5⟨v5,rfl,d8,d3⟩;obtain⟨a5,c5,rfl⟩:=d8.shape;replace d8:=qh d8;have g4:=d7.o.sl.below d3 nlr;replace g4:=qh g4;have e8:=g5.o.trans<|d3.mono l0;have e9:=h3.o.trans<|d3.mono k4;have g6:=qh e8;have h4:=qh e9;clear e8 e9 d3;have l1:=g6.o.size;have k5:=h4.o.size
     go_wp2_with fail
     refine(Ob _ _ xs ys w5 g4.o d8.o.sl R.o S.o b1.o (by rw[D.o,E.o];exact a1.o) (by omega)).mono ?_;rintro e w6⟨ls,X,b2,i2,v6,rfl,d9,f8⟩;obtain⟨a6,c6,rfl⟩:=d9.shape;rw[D.o,E.o]at X;replace X:=qh X;replace b2:=qh b2;have l6:ls.length<=1001:=by omega
     clear i2;replace d9:=qh d9;have f0:=g6.o.trans<|f8.mono l1;have f1:=h4.o.trans<|f8.mono k5;have g7:=qh f0;have h5:=qh f1;clear f0 f1 f8;have l2:=g7.o.size;have k6:=h5.o.size
     go_wp2_with fail
     have q7:=Hw _ ls w6 d9.o.sl b2.o (by omega);rw[X.o]at q7;refine q7.mono ?_;clear q7;rintro e w7⟨rfl,f9⟩;have f2:=g7.o.trans<|f9.mono l2;have f3:=h5.o.trans<|f9.mono k6;have j1:=qh f2;have j2:=qh f3;clear f2 f3 f9;go_wp2;go_roundw
     case rel=>exact⟨m-val t,j+1,rfl,by go_num,by rw[Nat.add_mul,Nat.one_mul];have:=a2.o;have:=a1.o;omega,j1.o,j2.o⟩
     rw[OR,OR];have:=a1.o;have:=hz.o;omega
   have h9:k=s.size:=by omega
   obtain⟨g,l3,hv,_,_,j7,_⟩:=l.o.some (by rw[o.o];omega);rw[o.o]at hv j7;simp only[Value.slice.injEq,true_and]at hv;obtain⟨rfl,rfl⟩:=hv;have p:=h.o.len;replace p:=qh p;have b9:num z*val t+rn=val s:=by
    have:=h.o.val;rw[h9,List.take_of_length_le (by rw[Ao];omega)]at this;exact this
   have b7:rn=val s % val t:=by
    rw[<-b9,Nat.mul_comm,Nat.mul_add_mod,Nat.mod_eq_of_lt h.o.lt]
   have b5:num z=val s / val t:=by
    rw[<-b9,Nat.mul_comm,Nat.mul_add_div (Nat.pos_of_ne_zero hz.o),Nat.div_eq_of_lt h.o.lt,Nat.add_zero]
   replace b7:=qh b7;replace b5:=qh b5;clear b9;have m2:1<=k:=by omega
   have d5:k<=1000:=by omega
   have O:=qh d5;clear h9
   go_wp2_with fail
   go_loop [11] (λi=>∃j:Nat,i=.int .i64 (j:Int)/\Strip z j) (λi=>k-(intOf i).toNat)
   case atStart=>exact⟨0,rfl,⟨by rw[p.o];omega,by rw[List.drop_zero]⟩⟩
   obtain⟨j,rfl,a8⟩:=hrel;have g1:=a8.lt;rw[p.o]at g1;have l5:j<k:=by omega
   have l9:j<d0:=by omega
   have l4:¬d0=j:=by omega
   replace a8:=qh a8;have j3:=l.o.cell o.o j (by omega);have b4:nth (z.map (·.toNat)) j=(z[j]'(by rw[p.o];omega)).toNat:=by rw[CZ _ _ (by rw[o.o];omega),List.getElem_map]
   obtain⟨d,hd⟩:=exq<|nth (z.map (·.toNat)) j;rw[<-hd]at j3 b4;replace b4:=qh b4;clear hd;by_cases b3:j+1<k;have j6:decide ((j:Int)<(k:Int)-1)=true:=decide_eq_true (by omega);have g9:=qh b3;clear b3 g1;by_cases d1:d=48
   ·have hg:((d:Int)==48)=true:=by rw[beq_iff_eq];omega
    have i9:=qh d1;clear d1;have N:=a8.o.step (by rw[p.o];exact g9.o) (by rw[<-b4.o];exact i9.o);replace N:=qh N;go_wp2
    go_round
    case rel=>exact⟨j+1,by go_num,N.o⟩
    simp[intOf];omega
   have hg:((d:Int)==48)=false:=by rw[beq_eq_false_iff_ne];omega
   have T:=OS a8.o h.o.dig (by rw[p.o];exact O.o) (.inr (by intro e;apply d1;rw[b4.o,e];rfl));clear d1
   rotate_left
   have j6:decide ((j:Int)<(k:Int)-1)=false:=decide_eq_false (by omega);have T:=OS a8.o h.o.dig (by rw[p.o];exact O.o) (.inl (by rw[p.o];omega));clear b3 g1
   all_goals
    rw[b5.o]at T;have Q:∀(i:Nat) (hi:i<(z.drop j).length),wo.cell? (((Ad g j):Addr).add i)=some (.int .u8 (((z.drop j)[i].toNat:Nat):Int)):=λi hi=>by
     have h8:j+i<k:=by rw[List.length_drop,p.o]at hi;omega
     have Y:=l.o.cell o.o (j+i) h8;have e:((Ad g j):Addr).add i=(Ad g (j+i)):=by unfold Addr.add;split<;>simp_all
     rw[e,Y,CZ _ _ (by rw[o.o];exact h8),List.getElem_map,List.getElem_drop]
    have j5:=run_convert_bytes_back (P:=prog) wo 217 9 5 (Ad g j) (d0-j) (z.drop j) underlying217 underlying5 underlying9 Q;have f4:(⟨(z.drop j).toArray⟩:ByteArray)=str (dec (val s / val t)):=by rw[T];rfl
    rw[f4,List.length_drop,p.o]at j5;clear Q f4 T
    go_wp2_with fail
    all_goals (rw[<-b7.o];go_ret3;exact⟨rfl,HB.o⟩)
set_option maxRecDepth 100000 in
theorem VZ(s t:ByteArray)(w:World)(F:s.size<=maxLen)(G:t.size<=maxLen):
  Calls prog 171 #[.string s,.string t] w (PairEnd (gcdF s t) w):=by
 have c1:=λw=>Ck s w F;have c2:=λw=>Ck t w G;clear F G;cases c:vld s with
 |false =>
  have l:gcdF s t=(str [],1):=by unfold gcdF;rw[c];rfl
  rw[l];unfold vld at c;rw[c]at c1;clear l c c2;have u:=qh c1;clear c1
  go_enter func171,ntmps171
  go_wp2_with fail
  refine(u.o _).mono ?_;rintro e B⟨rfl,rfl⟩;go_wp2;go_ret2;exact⟨rfl,blr⟩
 |true =>
  cases j:vld t with
  |false =>
   have l:gcdF s t=(str [],1):=by unfold gcdF;rw[c,j];rfl
   rw[l];unfold vld at c j;rw[c]at c1;rw[j]at c2;clear l c j;have u:=qh c1;clear c1;have C:=qh c2;clear c2
   go_enter func171,ntmps171
   go_wp2_with fail
   refine(u.o _).mono ?_;rintro e B⟨rfl,rfl⟩
   go_wp2_with fail
   refine(C.o _).mono ?_;rintro e B⟨rfl,rfl⟩;go_wp2;go_ret2;exact⟨rfl,blr⟩
  |true =>
   rw[show Aq (bts s)=true from c]at c1;rw[show Aq (bts t)=true from j]at c2;have u:=qh c1;clear c1;have C:=qh c2;clear c2;replace c:=qh c;replace j:=qh j;have l:gcdF s t=(str (dec (Nat.gcd (val s) (val t))),0):=by unfold gcdF;rw[c.o,j.o];rfl
   rw[l];clear l
   go_enter func171,ntmps171
   go_wp2_with fail
   refine(u.o _).mono ?_;rintro e B⟨rfl,rfl⟩
   go_wp2_with fail
   refine(C.o _).mono ?_;rintro e B⟨rfl,rfl⟩
   go_wp2_with fail
   go_loopg [0,1] (val t) (λg I J wr=>∃p:Nat,I=.string (str (dec p))/\J=.string (str (dec g))/\Nat.gcd p g=Nat.gcd (val s) (val t)/\fits p/\fits g/\Below w.heap.size w wr)
   case atStart=>exact⟨val s,by rw[EB c.o],by rw[EB j.o],rfl,FF c.o,FF j.o,blr⟩
   obtain⟨p,rfl,rfl,A,h,i,hb⟩:=hrel;replace A:=qh A;replace h:=qh h;replace i:=qh i;replace hb:=qh hb;have E:=hb.o.size;by_cases k:gk=0
   ·have D:((str (dec gk)).toList==[48])=true:=by rw[beq_iff_eq,k,Lib.toList_data,Bv (by omega)];rfl
    have H:((str (dec gk)).toList != [48])=false:=by unfold bne;rw[D];rfl
    have K:(str (dec gk)).toList=[48]:=by rw[k,Lib.toList_data,Bv (by omega)];rfl
    have o:p=Nat.gcd (val s) (val t):=by rw[<-A.o,k,Nat.gcd_zero_right]
    replace o:=qh o;clear k;go_wp2;go_ret2;exact⟨Hu (by rw[o.o]) rfl,hb.o⟩
   have D:((str (dec gk)).toList==[48])=false:=beq_eq_false_iff_ne.2 (He (by rw[AB];exact k));have H:((str (dec gk)).toList != [48])=true:=by unfold bne;rw[D];rfl
   have d:=NX (str (dec p)) (str (dec gk)) wr (AR h.o) (AR i.o);unfold TripEnd at d;rw[IT (AT h.o) (AT i.o) (by rw[AB];exact k),AB,AB]at d;replace d:=qh d;replace k:=qh k
   go_wp2_with fail
   refine d.o.mono ?_;rintro e L⟨rfl,z⟩;have m:=hb.o.trans<|z.mono E;replace m:=qh m;clear z
   go_wp2_with fail
   go_roundg (p % gk)
   case measure=>exact Nat.mod_lt _ (Nat.pos_of_ne_zero k.o)
   case rel=>exact⟨gk,rfl,rfl,by rw[<-A.o,Nat.gcd_comm gk,<-Nat.gcd_rec,Nat.gcd_comm],i.o,Cd h.o (Nat.mod_le _ _),m.o⟩
def VJ(m n:Nat)(w:World)(c:fits m)(hn:fits n)(h:fits (m+n)):
  Calls prog 172 #[.string (str (dec m)),.string (str (dec n))] w (StrZ (str (dec (m+n))) w):=by
 have:=VI (str (dec m)) (str (dec n)) w (AR c) (AR hn);rw[Lf (AT c) (AT hn) (by rw[AB,AB];exact h),AB,AB]at this;exact this
def On(m n:Nat)(w:World)(c:fits m)(hn:fits n)(h:n<=m):
  Calls prog 174 #[.string (str (dec m)),.string (str (dec n))] w (StrZ (str (dec (m-n))) w):=by
 have:=Wo (str (dec m)) (str (dec n)) w (AR c) (AR hn);rw[OU (AT c) (AT hn) (by rw[AB,AB];exact h),AB,AB]at this;exact this
def Wc(m n:Nat)(w:World)(c:fits m)(hn:fits n)(h:fits (m*n)):
  Calls prog 175 #[.string (str (dec m)),.string (str (dec n))] w (StrZ (str (dec (m*n))) w):=by
 have:=Wb (str (dec m)) (str (dec n)) w (AR c) (AR hn);rw[Nf (AT c) (AT hn) (by rw[AB,AB];exact h),AB,AB]at this;exact this
def NZ(m n:Nat)(w:World)(c:fits m)(hn:fits n):
  Calls prog 171 #[.string (str (dec m)),.string (str (dec n))] w (StrZ (str (dec (Nat.gcd m n))) w):=by
 have:=VZ (str (dec m)) (str (dec n)) w (AR c) (AR hn);rw[Mv (AT c) (AT hn),AB,AB]at this;exact this
def NY(m n:Nat)(w:World)(c:fits m)(hn:fits n)(h:n≠0):
  Calls prog 177 #[.string (str (dec m)),.string (str (dec n))] w λe w'=>e=.returned (.tuple #[.string (str (dec (m / n))),.string (str (dec (m % n))),.int .i64 0])/\Below w.heap.size w w':=by
 have:=NX (str (dec m)) (str (dec n)) w (AR c) (AR hn);rw[IT (AT c) (AT hn) (by rw[AB];exact h),AB,AB]at this;exact this
def NW(m n:Nat)(w:World)(c:fits m)(hn:fits n):
  Calls prog 173 #[.string (str (dec m)),.string (str (dec n))] w (IntEnd (cmpN m n) w):=by
 have:=VK (str (dec m)) (str (dec n)) w (AR c) (AR hn);unfold cmpF at this;rw[AT c,AT hn,AB,AB]at this;exact this
def DF(m n:Nat)(w:World)(d:fits m)(hn:fits n)(h:fits (m*n)):
  Calls prog 139 #[.string (str (dec m)),.string (str (dec n))] w (StrE (str (dec (m*n))) w):=by
 have c:=Wc m n w d hn h;replace c:=qh c;clear d hn h
 go_enter func139,ntmps139
 go_wp2_with fail
 refine nxa c.o λi g=>?_;go_wp2;go_ret;exact⟨rfl,g.o⟩
def OO(p q:Bool)(m n:Nat)(w:World)(h:fits (m+n)):
  Calls prog 138 #[.bool p,.string (str (dec m)),.bool q,.string (str (dec n))] w λe w' =>
   e=.returned (.tuple #[.bool (sumF p m q n).1,.string (str (dec (sumF p m q n).2))])/\Below w.heap.size w w':=by
 have j:fits m:=Cd h (by omega);have k:fits n:=Cd h (by omega);by_cases d:p=q
 ·subst d;have l:sumF p m p n=(p,m+n):=by unfold sumF;rw[ifp rfl]
  rw[l];have i:=VJ m n w j k h;have A:=qh i;clear i j k h l;have F:(p==p)=true:=by cases p<;>rfl
  go_enter func138,ntmps138
  go_wp2_with fail
  refine nxa A.o λo D=>?_;go_wp2;go_ret2;exact⟨rfl,D.o⟩
 have hb:(p==q)=false:=by rw[beq_eq_false_iff_ne];exact d
 by_cases c:m<n;have l:sumF p m q n=(q,n-m):=by unfold sumF;rw[ifn d,ifp c]
 rw[l];have i:=NW m n w j k;rw[Co c]at i;have hd:=λo=>On n m o k j (Nat.le_of_lt c)
 rotate_left
 have l:sumF p m q n=(p,m-n):=by unfold sumF;rw[ifn d,ifn c]
 rw[l];have i:=NW m n w j k;have B:0<=cmpN m n:=by
  rcases Nat.lt_or_ge n m with C|C
  ·rw[CU C];omega
  rw[DU (by omega)];omega
 generalize cmpN m n=z at i B;have hd:=λo=>On m n o j k (by omega)
 all_goals
  have A:=qh i;clear i;have E:=qh hd;clear hd;clear j k h l c d
  go_enter func138,ntmps138
  go_wp2_with fail
  refine A.o.mono ?_;rintro e o⟨rfl,g⟩;replace g:=qh g
  go_wp2_with fail
  refine(E.o o).mono ?_;rintro e G⟨rfl,s⟩;have u:=qh<|g.o.trans (s.mono g.o.size);clear s;go_wp2;go_ret2;exact⟨rfl,u.o⟩
def OH(s:ByteArray)(w:World)(d:s.size<=9223372036854775807):
  Calls prog 170 #[.string s] w λe w'=>e=.returned (.bool (decide (s.size<=400)&&vld s))/\w=w':=by
 have c:=Ck s w (by unfold maxLen;omega);replace c:=qh c;by_cases h:s.size<=400
 ·have g:(s.size:Int)<=400:=by omega
  have e:(decide (s.size<=400)&&vld s)=vld s:=by rw[decide_eq_true h];rfl
  rw[e];clear h e d
  go_enter func170,ntmps170
  go_wp2_with fail
  refine c.o.mono ?_;rintro e i⟨rfl,rfl⟩;go_wp2;go_ret;exact⟨rfl,rfl⟩
 have g:(400:Int)<(s.size:Int):=by omega
 have e:(decide (s.size<=400)&&vld s)=false:=by rw[decide_eq_false h];rfl
 rw[e];clear h e d
 go_enter func170,ntmps170
 go_wp2;go_ret;exact⟨rfl,rfl⟩
def XY(l:List UInt8):∀(i:Nat),i<l.length->(∀j,j<i->l.getD j 0≠47)->l.getD i 0=47->hasS l=true/\(upTo l).length=i:=by
 induction l with
 |nil=>intro i hi;simp at hi
 |cons a l ih =>
  intro i hi k c;cases i with
  |zero=>simp at c;subst c;simp[hasS,upTo]
  |succ i =>
   have g:a≠47:=by have:=k 0 (by omega);simpa using this
   obtain⟨d,o⟩:=ih i (by simpa using hi) (λj h=>by have:=k (j+1) (by omega);simpa using this) (by simpa using c);have m:upTo (a::l)=a::upTo l:=by simp[upTo,g]
   refine⟨?_,by rw[m,List.length_cons,o]⟩;simp[hasS,g]at d ⊢;exact d
def Te(l:List UInt8)(h:∀j,j<l.length->l.getD j 0≠47):hasS l=false:=by
 simp[hasS];intro c i e;obtain⟨j,g,d⟩:=List.getElem_of_mem i
 apply h j g
 rw[List.getD_eq_getElem?_getD,List.getElem?_eq_getElem g];simp[d,e]
theorem XR(c:UInt8)(h:c≠47):((c.toNat:Int)==47)=false:=by
 rw[beq_eq_false_iff_ne];intro e;apply h;apply UInt8.toNat_inj.1;show c.toNat=47;omega
def idxF(s:ByteArray):Int:=if hasS (bts s) then ((upTo (bts s)).length:Int) else -1
def To(s:ByteArray)(w:World)(B:s.size<=9223372036854775807):
  Calls prog 169 #[.string s,.int .u8 47] w λe w'=>e=.returned (.int .i64 (idxF s))/\Below w.heap.size w w':=by
 have C:(s.size:Int)<=9223372036854775807:=by omega
 clear B
 go_enter func169,ntmps169
 go_wp2
 go_loopw [5] (λi wr=>∃k:Nat,k<=s.size/\i=.int .i64 k/\(∀j,j<k->(bts s).getD j 0≠47)/\wr=w) (λi _=>s.size-(intOf i).toNat)
 case atStart=>exact⟨0,Nat.zero_le _,rfl,λj m=>by omega,rfl⟩
 obtain⟨k,D,rfl,m,rfl⟩:=hrel;have o:=qh m;clear m;by_cases d:k<s.size
 ·by_cases g:s[k]=47
  ·have u:((s[k].toNat:Int)==47)=true:=by rw[g];rfl
   have l:idxF s=k:=by
    obtain⟨z,A⟩:=XY (bts s) k (by rw[Ao];exact d) o.o (by rw[En s k d];exact g);unfold idxF;rw[z,A];rfl
   have p:=qh l;clear l g;go_wp2;go_ret;exact⟨BS p.o.symm,blr⟩
  have u:((s[k].toNat:Int)==47)=false:=XR _ g;have c:∀j,j<k+1->(bts s).getD j 0≠47:=by
   intro j m;by_cases e:j=k
   ·subst e;rw[En s j d];exact g
   exact o.o j (by omega)
  replace c:=qh c;clear g;go_wp2;go_roundw
  case rel=>exact⟨k+1,by omega,by go_num,c.o,by trivial⟩
  simp[intOf];omega
 have l:idxF s=-1:=by
  unfold idxF;rw[Te (bts s) (λj h=>o.o j (by rw[Ao]at h;omega))];rfl
 have p:=qh l;clear l;go_wp2;go_ret;exact⟨BS p.o.symm,blr⟩
def txtM(r:Bool)(x y:ByteArray):ByteArray :=
 let s:=if r then (⟨#[45]⟩:ByteArray)++x else x
 if y=⟨#[49]⟩ then s else (s++(⟨#[47]⟩:ByteArray))++y
theorem XO(r:Bool)(x y:ByteArray):txtM r x y=txtS r x y:=by
 unfold txtM txtS;by_cases h:y=⟨#[49]⟩
 ·rw[ifp h,ifp h]
 rw[ifn h,ifn h,ByteArray.append_assoc]
theorem TS(s:Bool)(a b g x y t u:ByteArray)(r:Bool)(w:World)(B:(s=false/\r=false)\/(s=true/\(x.toList==[48])=!r))(hb:(b.toList==[48])=false)
  (D:x.size<=1000) (F:y.size<=1000)
  (c0:∀wx,Calls prog 176 #[.string a] wx λe w'=>e=.returned (.bool true)/\wx=w')
  (o:∀wx,Calls prog 176 #[.string b] wx λe w'=>e=.returned (.bool true)/\wx=w')
  (c1:∀wx,Calls prog 171 #[.string a,.string b] wx (StrZ g wx))
  (c2:∀wx,Calls prog 177 #[.string a,.string g] wx λe w'=>e=.returned (.tuple #[.string x,.string t,.int .i64 0])/\Below wx.heap.size wx w')
  (c3:∀wx,Calls prog 177 #[.string b,.string g] wx λe w'=>e=.returned (.tuple #[.string y,.string u,.int .i64 0])/\Below wx.heap.size wx w') :
  Calls prog 140 #[.bool s,.string a,.string b] w λe w' =>
   e=(if x.size<=400/\y.size<=400 then .returned (.tuple #[.string (txtM r x y),.int .i64 0]) else .returned (.tuple #[.string ⟨#[]⟩,.int .i64 2]))/\Below w.heap.size w w':=by
 replace c0:=qh c0;have C:=qh o;clear o;replace c1:=qh c1;replace c2:=qh c2;replace c3:=qh c3;have k:(x.size<=400/\y.size<=400)\/(x.size<=400/\400<y.size)\/400<x.size:=by omega
 obtain⟨L,c⟩:∃E:Ending,E=(if x.size<=400/\y.size<=400 then .returned (.tuple #[.string (txtM r x y),.int .i64 0]) else .returned (.tuple #[.string ⟨#[]⟩,.int .i64 2])):=⟨_,rfl⟩
 rw[<-c];replace c:=qh c
 go_enter func140,ntmps140
 go_wp2_with fail
 refine(c0.o _).mono ?_;rintro e I⟨rfl,rfl⟩
 go_wp2_with fail
 refine(C.o _).mono ?_;rintro e I⟨rfl,rfl⟩
 go_wp2_with fail
 refine(c1.o _).mono ?_;rintro e I⟨rfl,j⟩;replace j:=qh j
 go_wp2_with fail
 refine(c2.o _).mono ?_;rintro e P⟨rfl,p⟩;have m:=qh<|j.o.trans (p.mono j.o.size);clear p
 go_wp2_with fail
 refine(c3.o _).mono ?_;rintro e Q⟨rfl,z⟩;have d:=qh<|m.o.trans (z.mono m.o.size);clear z;clear hb
 rcases k with⟨l,A⟩|⟨l,A⟩|l
 ·have i:=qh<|show x.size<=400/\y.size<=400 from ⟨l,A⟩;have H:(x.size:Int)<=400:=by omega
  have J:(y.size:Int)<=400:=by omega
  have N:(x.size:Int)<=8388608:=by omega
  have O:(y.size:Int)<=8388608:=by omega
  clear l A D F;by_cases hd:y=⟨#[49]⟩
  ·subst hd
   rcases B with⟨rfl,rfl⟩|⟨rfl,G⟩
   ·go_wp2;go_ret2;exact⟨by rw[c.o,ifp i.o];rfl,d.o⟩
   cases r<;>simp only[Bool.not_true,Bool.not_false]at G
   ·go_wp2;go_ret2;exact⟨by rw[c.o,ifp i.o];rfl,d.o⟩
   go_wp2;go_ret2;exact⟨by rw[c.o,ifp i.o];rfl,d.o⟩
  have K:(y.toList==[49])=false:=BQ hd;replace hd:=qh hd
  rcases B with⟨rfl,rfl⟩|⟨rfl,G⟩
  ·go_wp2;go_ret2;exact⟨by rw[c.o,ifp i.o];unfold txtM;rw[ifn hd.o];rfl,d.o⟩
  cases r<;>simp only[Bool.not_true,Bool.not_false]at G
  rotate_left
  all_goals
   go_wp2;go_ret2;exact⟨by rw[c.o,ifp i.o];unfold txtM;rw[ifn hd.o];rfl,d.o⟩
 ·have i:=qh (show ¬(x.size<=400/\y.size<=400) from λh=>by omega);have H:(x.size:Int)<=400:=by omega
  have J:(400:Int)<(y.size:Int):=by omega
  clear l A D F B;go_wp2;go_ret2;exact⟨by rw[c.o,ifn i.o];rfl,d.o⟩
 have i:=qh (show ¬(x.size<=400/\y.size<=400) from λh=>by omega);have H:(400:Int)<(x.size:Int):=by omega
 clear l D F B;go_wp2;go_ret2;exact⟨by rw[c.o,ifn i.o];rfl,d.o⟩
theorem Ko(n:Nat):((str (dec n)).toList==[48])=decide (n=0):=by
 rw[str_eq,decide_eq_decide];exact⟨λh=>Cy (h.trans Cz.symm),λh=>by rw[h,Cz]⟩
def OE{n:Nat}(h:n≠0):((str (dec n)).toList==[48])=false:=by
 rw[str_eq,decide_eq_false_iff_not];exact λe=>h (Cy (e.trans Cz.symm))
def Hb(s:Bool)(m d:Nat)(w:World)(j:fits m)(hd:fits d)(i:d≠0):
  Calls prog 140 #[.bool s,.string (str (dec m)),.string (str (dec d))] w (PairEnd (limR (mkRat (sg s m) d)) w):=by
 obtain⟨l,o,C⟩:=Nb (sg s m) d i;rw[HA]at l o;have z:fits (Nat.gcd m d):=Cd hd (Nat.le_of_dvd (Nat.pos_of_ne_zero i) (Nat.gcd_dvd_right _ _));have c:Nat.gcd m d≠0:=by have:=Nat.gcd_pos_of_pos_right m (Nat.pos_of_ne_zero i);omega
 have D:fits (m / Nat.gcd m d):=Cd j (Nat.div_le_self _ _);have E:fits (d / Nat.gcd m d):=Cd hd (Nat.div_le_self _ _);have A:∀n,fits n->∀g,Calls prog 176 #[.string (str (dec n))] g λe B=>e=.returned (.bool true)/\g=B:=by
  intro n k g;have:=Ck (str (dec n)) g (AR k);have p:Aq (bts (str (dec n)))=true:=AT k;rw[p]at this;exact this
 have F:=TS s (str (dec m)) (str (dec d)) (str (dec (Nat.gcd m d))) (str (dec (m / Nat.gcd m d))) (str (dec (d / Nat.gcd m d))) _ _ (negQ (mkRat (sg s m) d)) w ?_ (OE i) ?_ ?_
  (A m j) (A d hd) (λg=>NZ m d g j hd) (λg=>NY m _ g j z c) (λg=>NY d _ g hd z c)
 ·refine F.mono ?_;rintro e B⟨rfl,hb⟩;refine⟨?_,hb⟩;have hf:fitQ (mkRat (sg s m) d)↔((str (dec (m / Nat.gcd m d))).size<=400/\(str (dec (d / Nat.gcd m d))).size<=400):=by
   unfold fitQ;rw[l,o,AF,AF]
  have k:txt (mkRat (sg s m) d)=txtM (negQ (mkRat (sg s m) d)) (str (dec (m / Nat.gcd m d))) (str (dec (d / Nat.gcd m d))):=by
   rw[XO,<-Ps,l,o]
  by_cases h:fitQ (mkRat (sg s m) d)
  ·rw[CX h,ifp (hf.1 h),k];rfl
  rw[MI h,ifn (λe=>h (hf.2 e))];rfl
 ·rw[C];cases s
  ·left;refine⟨rfl,?_⟩;rw[decide_eq_false_iff_not,HD];simp
  right;refine⟨rfl,?_⟩
  rw[Ko];have G:m / Nat.gcd m d=0↔m=0:=by
   rw[Nat.div_eq_zero_iff]
   constructor
   ·intro h
    rcases h with h|h
    ·exact absurd h c
    by_cases u:m=0
    ·exact u
    have:=Nat.le_of_dvd (Nat.pos_of_ne_zero u) (Nat.gcd_dvd_left m d);omega
   intro h;right;rw[h];rw[h]at c;exact Nat.pos_of_ne_zero c
  rw[Bool.eq_iff_iff];simp only[decide_eq_true_eq,Bool.not_eq_true',decide_eq_false_iff_not,HD,G];simp
 ·rw[AF];exact D
 rw[AF];exact E
def Be{fn:Func}{t u v x:Tmp}(h:fn.results=#[.tmp t,.tmp u,.tmp v,.tmp x])(c:Array Value)(P:Program)(w:World):
  (results fn c).run P w=.ok (.tuple #[c.getD t undef,c.getD u undef,c.getD v undef,c.getD x undef]) w:=by
 simp[results,h]
def Quad(ok neg:Bool)(n d:ByteArray):Value:=.tuple #[.bool (ok&&neg),.string (if ok then n else ⟨#[]⟩),.string (if ok then d else ⟨#[]⟩),.bool ok]
def okC(neg frac vn vd:Bool)(n d g:ByteArray):Bool:=vn&&vd&&!(d.toList==[48])&&!((n.toList==[48])&&(neg||frac))&&!((d.toList==[49])&&frac)&&((g.toList==[49])||(d.toList==[49]))
def XQ(c:UInt8)(h:c≠45):((c.toNat:Int)==45)=false:=by
 rw[beq_eq_false_iff_ne];intro e;apply h;apply UInt8.toNat_inj.1;show c.toNat=45;omega
def Wi(s r n d g:ByteArray)(neg u z A:Bool)(i:Nat)(w:World)(U:s.size<=9223372036854775807)(T:r.size<=9223372036854775807)
  (hs:(neg=false/\r=s/\(s.size=0\/∃h:0<s.size,s[0]≠45))\/(neg=true/\r=s.extract 1 s.size/\∃h:0<s.size,s[0]=45))
  (hf:(u=false/\idxF r=-1/\n=r/\d=⟨#[49]⟩/\A=true/\(g.toList==[49])=true)\/(u=true/\idxF r=i/\i+1<=r.size/\n=r.extract 0 i/\d=r.extract (i+1) r.size))
  (c2:∀wx,Calls prog 169 #[.string r,.int .u8 47] wx λe w'=>e=.returned (.int .i64 (idxF r))/\Below wx.heap.size wx w')
  (c3:∀wx,Calls prog 170 #[.string n] wx λe w'=>e=.returned (.bool z)/\wx=w')
  (c4:∀wx,Calls prog 170 #[.string d] wx λe w'=>e=.returned (.bool A)/\wx=w')
  (c5:z=true->A=true->∀wx,Calls prog 171 #[.string n,.string d] wx (StrZ g wx)) :
  Calls prog 137 #[.string s] w λe w'=>e=.returned (Quad (okC neg u z A n d g) neg n d)/\Below w.heap.size w w':=by
 replace c2:=qh c2;replace c3:=qh c3;replace c4:=qh c4;replace c5:=qh c5;obtain⟨EE,j⟩:∃E:Value,E=Quad (okC neg u z A n d g) neg n d:=⟨_,rfl⟩;rw[<-j];replace j:=qh j;have b1:(s.size:Int)<=9223372036854775807:=by omega
 have b2:(r.size:Int)<=9223372036854775807:=by omega
 clear U T
 rcases hs with⟨rfl,rfl,B|⟨Z,B⟩⟩|⟨rfl,X,Z,B⟩
 ·
  rcases hf with⟨rfl,m,rfl,rfl,rfl,F⟩|⟨rfl,m,hi,C,hd⟩
  ·have p:=qh m;clear m
   go_enter func137,ntmps137
   go_wp2_with fail
   refine(c2.o _).mono ?_;rintro e H⟨rfl,o⟩;have c:=qh o;clear o;rw[p.o]
   go_wp2_with fail
   refine(c3.o _).mono ?_;rintro e w'⟨rfl,rfl⟩;cases z
   ·
    go_wp2_with fail
    refine bodyPost_ret (Be rfl _ _ _) rfl ⟨?_,c.o⟩;rw[j.o];simp[okC,Quad, *]
   go_wp2_with fail
   refine(c4.o _).mono ?_;rintro e w'⟨rfl,rfl⟩;cases G:(n.toList==[48])
   ·
    go_wp2_with fail
    refine(c5.o (by trivial) (by trivial) _).mono ?_;rintro e D⟨rfl,k⟩;have l:=qh<|c.o.trans (k.mono c.o.size);clear k
    go_wp2_with fail
    refine bodyPost_ret (Be rfl _ _ _) rfl ⟨?_,l.o⟩;rw[j.o];simp[okC,Quad, *]
   go_wp2_with fail
   refine(c5.o (by trivial) (by trivial) _).mono ?_;rintro e D⟨rfl,k⟩;have l:=qh<|c.o.trans (k.mono c.o.size);clear k
   go_wp2_with fail
   refine bodyPost_ret (Be rfl _ _ _) rfl ⟨?_,l.o⟩;rw[j.o];simp[okC,Quad, *]
  exact absurd hi (by omega)
 ·have K:((r[0].toNat:Int)==45)=false:=XQ _ B;clear B
  rcases hf with⟨rfl,m,rfl,rfl,rfl,F⟩|⟨rfl,m,hi,C,hd⟩
  ·have p:=qh m;clear m
   go_enter func137,ntmps137
   go_wp2_with fail
   refine(c2.o _).mono ?_;rintro e H⟨rfl,o⟩;have c:=qh o;clear o;rw[p.o]
   go_wp2_with fail
   refine(c3.o _).mono ?_;rintro e w'⟨rfl,rfl⟩;cases z
   ·
    go_wp2_with fail
    refine bodyPost_ret (Be rfl _ _ _) rfl ⟨?_,c.o⟩;rw[j.o];simp[okC,Quad, *]
   go_wp2_with fail
   refine(c4.o _).mono ?_;rintro e w'⟨rfl,rfl⟩;cases G:(n.toList==[48])
   ·
    go_wp2_with fail
    refine(c5.o (by trivial) (by trivial) _).mono ?_;rintro e D⟨rfl,k⟩;have l:=qh<|c.o.trans (k.mono c.o.size);clear k
    go_wp2_with fail
    refine bodyPost_ret (Be rfl _ _ _) rfl ⟨?_,l.o⟩;rw[j.o];simp[okC,Quad, *]
   go_wp2_with fail
   refine(c5.o (by trivial) (by trivial) _).mono ?_;rintro e D⟨rfl,k⟩;have l:=qh<|c.o.trans (k.mono c.o.size);clear k
   go_wp2_with fail
   refine bodyPost_ret (Be rfl _ _ _) rfl ⟨?_,l.o⟩;rw[j.o];simp[okC,Quad, *]
  have p:=qh m;clear m;have O:(0:Int)<=(i:Int):=by omega
  have P:(i:Int)<=(r.size:Int):=by omega
  have Q:(0:Int)<=(i:Int)+1:=by omega
  have R:(i:Int)+1<=(r.size:Int):=by omega
  have S:IntKind.i64.wrap ((i:Int)+1)=(i:Int)+1:=by rw[IntKind.wrap_i64];omega
  have J:=qh C.symm;clear C;have I:=qh hd.symm;clear hd hi
  go_enter func137,ntmps137
  go_wp2_with fail
  refine(c2.o _).mono ?_;rintro e H⟨rfl,o⟩;have c:=qh o;clear o;rw[p.o]
  go_wp2_with fail
  rw[J.o,I.o];refine(c3.o _).mono ?_;rintro e w'⟨rfl,rfl⟩;cases z
  ·
   go_wp2_with fail
   refine bodyPost_ret (Be rfl _ _ _) rfl ⟨?_,c.o⟩;rw[j.o];simp[okC,Quad, *]
  go_wp2_with fail
  refine(c4.o _).mono ?_;rintro e w'⟨rfl,rfl⟩;cases A
  ·
   go_wp2_with fail
   refine bodyPost_ret (Be rfl _ _ _) rfl ⟨?_,c.o⟩;rw[j.o];simp[okC,Quad, *]
  cases L:(d.toList==[48])
  ·
   cases G:(n.toList==[48])
   ·
    cases N:(d.toList==[49])
    ·
     go_wp2_with fail
     refine(c5.o (by trivial) (by trivial) _).mono ?_;rintro e D⟨rfl,k⟩;have l:=qh<|c.o.trans (k.mono c.o.size);clear k;cases Y:(g.toList==[49])
     ·
      go_wp2_with fail
      refine bodyPost_ret (Be rfl _ _ _) rfl ⟨?_,l.o⟩;rw[j.o];simp[okC,Quad, *]
     go_wp2_with fail
     refine bodyPost_ret (Be rfl _ _ _) rfl ⟨?_,l.o⟩;rw[j.o];simp[okC,Quad, *]
    go_wp2_with fail
    refine bodyPost_ret (Be rfl _ _ _) rfl ⟨?_,c.o⟩;rw[j.o];simp[okC,Quad, *]
   go_wp2_with fail
   refine bodyPost_ret (Be rfl _ _ _) rfl ⟨?_,c.o⟩;rw[j.o];simp[okC,Quad, *]
  go_wp2_with fail
  refine bodyPost_ret (Be rfl _ _ _) rfl ⟨?_,c.o⟩;rw[j.o];simp[okC,Quad, *]
 have K:((s[0].toNat:Int)==45)=true:=by rw[B];rfl
 have W:=qh X.symm;clear X B;have a1:(1:Int)<=(s.size:Int):=by omega
 rcases hf with⟨rfl,m,rfl,rfl,rfl,F⟩|⟨rfl,m,hi,C,hd⟩
 ·have p:=qh m;clear m
  go_enter func137,ntmps137
  go_wp2_with fail
  rw[W.o];refine(c2.o _).mono ?_;rintro e H⟨rfl,o⟩;have c:=qh o;clear o;rw[p.o]
  go_wp2_with fail
  refine(c3.o _).mono ?_;rintro e w'⟨rfl,rfl⟩;cases z
  ·
   go_wp2_with fail
   refine bodyPost_ret (Be rfl _ _ _) rfl ⟨?_,c.o⟩;rw[j.o];simp[okC,Quad, *]
  go_wp2_with fail
  refine(c4.o _).mono ?_;rintro e w'⟨rfl,rfl⟩;cases G:(n.toList==[48])
  ·
   go_wp2_with fail
   refine(c5.o (by trivial) (by trivial) _).mono ?_;rintro e D⟨rfl,k⟩;have l:=qh<|c.o.trans (k.mono c.o.size);clear k
   go_wp2_with fail
   refine bodyPost_ret (Be rfl _ _ _) rfl ⟨?_,l.o⟩;rw[j.o];simp[okC,Quad, *]
  go_wp2_with fail
  refine bodyPost_ret (Be rfl _ _ _) rfl ⟨?_,c.o⟩;rw[j.o];simp[okC,Quad, *]
 have p:=qh m;clear m;have O:(0:Int)<=(i:Int):=by omega
 have P:(i:Int)<=(r.size:Int):=by omega
 have Q:(0:Int)<=(i:Int)+1:=by omega
 have R:(i:Int)+1<=(r.size:Int):=by omega
 have S:IntKind.i64.wrap ((i:Int)+1)=(i:Int)+1:=by rw[IntKind.wrap_i64];omega
 have J:=qh C.symm;clear C;have I:=qh hd.symm;clear hd hi
 go_enter func137,ntmps137
 go_wp2_with fail
 rw[W.o];refine(c2.o _).mono ?_;rintro e H⟨rfl,o⟩;have c:=qh o;clear o;rw[p.o]
 go_wp2_with fail
 rw[J.o,I.o];refine(c3.o _).mono ?_;rintro e w'⟨rfl,rfl⟩;cases z
 ·
  go_wp2_with fail
  refine bodyPost_ret (Be rfl _ _ _) rfl ⟨?_,c.o⟩;rw[j.o];simp[okC,Quad, *]
 go_wp2_with fail
 refine(c4.o _).mono ?_;rintro e w'⟨rfl,rfl⟩;cases A
 ·
  go_wp2_with fail
  refine bodyPost_ret (Be rfl _ _ _) rfl ⟨?_,c.o⟩;rw[j.o];simp[okC,Quad, *]
 cases L:(d.toList==[48])
 ·
  cases G:(n.toList==[48])
  ·
   cases N:(d.toList==[49])
   ·
    go_wp2_with fail
    refine(c5.o (by trivial) (by trivial) _).mono ?_;rintro e D⟨rfl,k⟩;have l:=qh<|c.o.trans (k.mono c.o.size);clear k;cases Y:(g.toList==[49])
    ·
     go_wp2_with fail
     refine bodyPost_ret (Be rfl _ _ _) rfl ⟨?_,l.o⟩;rw[j.o];simp[okC,Quad, *]
    go_wp2_with fail
    refine bodyPost_ret (Be rfl _ _ _) rfl ⟨?_,l.o⟩;rw[j.o];simp[okC,Quad, *]
   go_wp2_with fail
   refine bodyPost_ret (Be rfl _ _ _) rfl ⟨?_,c.o⟩;rw[j.o];simp[okC,Quad, *]
  go_wp2_with fail
  refine bodyPost_ret (Be rfl _ _ _) rfl ⟨?_,c.o⟩;rw[j.o];simp[okC,Quad, *]
 go_wp2_with fail
 refine bodyPost_ret (Be rfl _ _ _) rfl ⟨?_,c.o⟩;rw[j.o];simp[okC,Quad, *]
variable{r:ByteArray}
def AU(o:Option Rat):Value:=match o with
 |some q=>.tuple #[.bool (negQ q),.string (str (dec q.num.natAbs)),.string (str (dec q.den)),.bool true]
 |none=>.tuple #[.bool false,.string ⟨#[]⟩,.string ⟨#[]⟩,.bool false]
theorem RB(h:hasS (bts r)=true):r.extract 0 (upTo (bts r)).length=str (upTo (bts r)):=by
 have c:=Fa _ h
 apply Dh;rw[Fx,AI];conv=>lhs;arg 2;arg 2;rw[c]
 rw[List.take_left,List.drop_zero]
theorem RD(h:hasS (bts r)=true):r.extract ((upTo (bts r)).length+1) r.size=str (Bh (bts r)):=by
 have c:=Fa _ h
 apply Dh;rw[Fx,AI,List.take_of_length_le (by rw[Ao];omega)]
 conv=>lhs;arg 2;rw[c]
 rw[<-List.drop_drop,List.drop_left];rfl
def RE(h:hasS (bts r)=true):(upTo (bts r)).length+1<=r.size:=by
 have c:=congrArg List.length (Fa _ h);rw[Ao,List.length_append,List.length_cons]at c;omega
def QP(i g l k n0 j c d neg:Bool)(h:i=true->g=true->n0=true->d=true->c=true):
  ((l&&i)&&(k&&g)&&!j&&!(n0&&(neg||true))&&!(c&&true)&&(d||c))=(i&&g&&l&&k&&!(neg&&n0)&&!(true&&(j||c))&&d):=by
 cases i<;>cases g<;>cases n0<;>cases d<;>cases c<;>cases l<;>cases k<;>cases j<;>cases neg<;>first|rfl|(simp at h)
def QQ(d c n0 neg:Bool):((c&&d)&&true&&!false&&!(n0&&(neg||false))&&!(true&&false)&&(true||true))=(d&&true&&c&&true&&!(neg&&n0)&&!(false&&(false||true))&&true):=by
 cases d<;>cases n0<;>cases c<;>cases neg<;>rfl
theorem LW(n:Nat):decide (dec n=[49])=decide (n=1):=by
 rw[decide_eq_decide];exact⟨λh=>Cy (h.trans Cb.symm),λh=>by rw[h,Cb]⟩
theorem Jv(l r:List UInt8):(l==r)=decide (l=r):=by rw[Bool.eq_iff_iff];simp
def Dp(s:ByteArray)(w:World)(P:s.size<=9223372036854775807):
  Calls prog 137 #[.string s] w λe w'=>e=.returned (AU (prs s))/\Below w.heap.size w w':=by
 obtain⟨r,u⟩:=exq<|str (Al (bts s));have i:bts r=Al (bts s):=by rw[u,AI]
 have O:r.size<=s.size:=by
  rw[<-Ao,i];unfold Al;split
  ·rw[List.length_tail,Ao];omega
  rw[Ao];omega
 have A:(str (denL (bts r))).size<=9223372036854775807:=by
  rw[AF];unfold denL;split
  ·rename_i h;have:=congrArg List.length (Fa _ h);rw[Ao,List.length_append,List.length_cons]at this;omega
  show 1<=_;omega
 have C:(str (upTo (bts r))).size<=9223372036854775807:=by
  rw[AF];have:=(List.takeWhile_sublist (· != 47) (l:=bts r)).length_le;rw[Ao]at this;unfold upTo;omega
 have N:=Wi s r (str (upTo (bts r))) (str (denL (bts r))) (str (dec (Nat.gcd (num (upTo (bts r))) (num (denL (bts r)))))) (AM (bts s)) (hasS (bts r))
  (decide ((str (upTo (bts r))).size<=400)&&vld (str (upTo (bts r)))) (decide ((str (denL (bts r))).size<=400)&&vld (str (denL (bts r)))) (upTo (bts r)).length w P (by omega) ?_ ?_
  (λg=>To r g (by omega)) (λg=>OH _ g C) (λg=>OH _ g A)
  (λz o g=>by
   simp only[Bool.and_eq_true,decide_eq_true_eq]at z o;have v1:Aq (upTo (bts r))=true:=by have:=z.2;unfold vld at this;rw[AI]at this;exact this
   have J:Aq (denL (bts r))=true:=by have:=o.2;unfold vld at this;rw[AI]at this;exact this
   have k:=BV v1;have m:=BV J;have K:fits (num (upTo (bts r))):=by unfold fits;rw[k];exact(Ba v1).2.1
   have L:fits (num (denL (bts r))):=by unfold fits;rw[m];exact(Ba J).2.1
   have:=NZ _ _ g K L;rw[k,m]at this;exact this)
 ·refine N.mono ?_;rintro e w'⟨rfl,hb⟩;refine⟨?_,hb⟩;have D:okC (AM (bts s)) (hasS (bts r)) (decide ((str (upTo (bts r))).size<=400)&&vld (str (upTo (bts r)))) (decide ((str (denL (bts r))).size<=400)&&vld (str (denL (bts r)))) (str (upTo (bts r))) (str (denL (bts r))) (str (dec (Nat.gcd (num (upTo (bts r))) (num (denL (bts r))))))
    = okP (AM (bts s)) (upTo (bts r)) (denL (bts r)) (hasS (bts r)):=by
   unfold okC okP vld;rw[str_eq,str_eq,str_eq,str_eq,AF,AF,AI,AI,LW,Jv,Jv,Jv];cases hf:hasS (bts r)
   ·have hd:denL (bts r)=[49]:=by unfold denL;rw[hf];rfl
    rw[hd];have k:decide (Nat.gcd (num (upTo (bts r))) (num [49])=1)=true:=by
     rw[decide_eq_true_eq];show Nat.gcd _ 1=1;exact Nat.gcd_one_right _
    have m:Aq [49]=true:=by decide
    rw[k,m];exact QQ _ _ _ _
   refine QP _ _ _ _ _ _ _ _ _ ?_;intro z o G p;rw[decide_eq_true_eq]at G p ⊢;rw[G]at p;have:num (denL (bts r))=1:=by rw[show num [48]=0 from rfl,Nat.gcd_zero_left]at p;exact p
   rw[<-BV o,this,Cb]
  rw[D,i];cases I:okP (AM (bts s)) (upTo (Al (bts s))) (denL (Al (bts s))) (hasS (Al (bts s)))
  ·have d:prs s=none:=by unfold prs prsL;rw[I];rfl
   rw[d];rfl
  have d:prs s=some (mkRat (sg (AM (bts s)) (num (upTo (Al (bts s))))) (num (denL (Al (bts s))))):=by unfold prs prsL;rw[I];rfl
  have E:=(JQ d).2;rw[d];simp only[AU,E.sign,E.top,E.bot];rfl
 ·by_cases F:s.size=0
  ·have B:bts s=[]:=List.length_eq_zero_iff.1 (by rw[Ao];exact F)
   left;refine⟨by rw[B];rfl,?_,.inl F⟩
   rw[u,B];apply Dh;rw[AI,B];rfl
  have d:0<s.size:=by omega
  have H:=FG s d;by_cases c:s[0]=45
  ·right
   have j:AM (bts s)=true:=by unfold AM;rw[H,c];rfl
   refine⟨j,?_,d,c⟩;rw[u];apply Dh;rw[AI,Fx,List.take_of_length_le (by rw[Ao];omega)];unfold Al;rw[j];cases bts s<;>rfl
  left
  have j:AM (bts s)=false:=by unfold AM;rw[H,beq_eq_false_iff_ne];exact c
  refine⟨j,?_,.inr ⟨d,c⟩⟩;rw[u];unfold Al;rw[j];exact Eg s
 cases hf:hasS (bts r)
 ·left
  have hd:denL (bts r)=[49]:=by unfold denL;rw[hf];rfl
  refine⟨rfl,by unfold idxF;rw[hf];rfl,by rw[GN _ hf,Eg],by rw[hd];rfl,?_,?_⟩
  ·rw[hd];decide
  rw[hd,str_eq,LW,decide_eq_true_eq];exact Nat.gcd_one_right _
 right
 have hd:denL (bts r)=Bh (bts r):=by unfold denL;rw[hf];rfl
 exact⟨rfl,by unfold idxF;rw[hf];rfl,RE hf,(RB hf).symm,by rw[hd];exact(RD hf).symm⟩
def Pb(a:ByteArray)(w:World)(i:a.size<=9223372036854775807):
  Calls prog 135 #[.string a] w λe w'=>e=.returned (.bool (prs a).isSome)/\Below w.heap.size w w':=by
 have c:=Dp a w i;cases d:prs a with
 |none =>
  rw[d]at c;simp only[AU]at c;have h:=qh c;clear c d i
  go_enter func135,ntmps135
  go_wp2_with fail
  refine h.o.mono ?_;rintro e w'⟨rfl,hb⟩;have g:=qh hb;clear hb;go_wp2;go_ret;exact⟨rfl,g.o⟩
 |some q =>
  rw[d]at c;simp only[AU]at c;have h:=qh c;clear c d i
  go_enter func135,ntmps135
  go_wp2_with fail
  refine h.o.mono ?_;rintro e w'⟨rfl,hb⟩;have g:=qh hb;clear hb;go_wp2;go_ret;exact⟨rfl,g.o⟩
def negF(a:ByteArray):ByteArray × Nat:=match prs a with|some x=>limR (-x)|none=>(str [],1)
theorem UA(q:Rat):mkRat (sg (!negQ q) q.num.natAbs) q.den=-q:=by
 rw[Kp,Ev,<-Rat.neg_mkRat,Rat.mkRat_self]
theorem WL(a:ByteArray)(w:World)(k:a.size<=9223372036854775807):
  Calls prog 246 #[.string a] w (PairEnd (negF a) w):=by
 have c:=Dp a w k;cases d:prs a with
 |none =>
  have g:negF a=(str [],1):=by unfold negF;rw[d]
  rw[g];rw[d]at c;simp only[AU]at c;have j:=qh c;clear c d k g
  go_enter func246,ntmps246
  go_wp2_with fail
  refine j.o.mono ?_;rintro e o⟨rfl,hb⟩;replace hb:=qh hb;go_wp2;go_ret2;exact⟨rfl,hb.o⟩
 |some q =>
  have hf:=(AS d).2;have g:negF a=limR (-q):=by unfold negF;rw[d]
  have c2:=λl=>Hb (!negQ q) q.num.natAbs q.den l (By hf) (AX hf) q.den_nz;rw[UA]at c2;rw[g];rw[d]at c;simp only[AU]at c;generalize limR (-q)=lr at *;obtain⟨ls,m⟩:=lr;replace c2:=qh c2;have j:=qh c;clear c d k g hf
  go_enter func246,ntmps246
  go_wp2_with fail
  refine nxa j.o λp h=>?_
  go_wp2_with fail
  refine nxb (c2.o _) h λs i=>?_;go_wp2;go_ret2;exact⟨rfl,i.o⟩
def Kn(a b:ByteArray)(w:World)(F:a.size<=9223372036854775807)(hb:b.size<=9223372036854775807):
  Calls prog 98 #[.string a,.string b] w (PairEnd (AZ a b) w):=by
 have c1:=λc=>Dp a c F;have c2:=λc=>Dp b c hb;clear F hb;cases j:prs a with
 |none =>
  have l:AZ a b=(str [],1):=by unfold AZ;rw[j]
  rw[l];rw[j]at c1;simp only[AU]at c1;have o:=qh c1;clear c1 j l;cases h:prs b
  rotate_left
  all_goals
   rw[h]at c2;simp only[AU]at c2;have m:=qh c2;clear c2 h
   go_enter func98,ntmps98
   go_wp2_with fail
   refine nxa (o.o _) λG d=>?_
   go_wp2_with fail
   refine nxb (m.o _) d λH g=>?_;go_wp2;go_ret2;exact⟨rfl,g.o⟩
 |some x =>
  rw[j]at c1;simp only[AU]at c1;have o:=qh c1;clear c1;have i:=(AS j).2;cases h:prs b with
  |none =>
   have l:AZ a b=(str [],1):=by unfold AZ;rw[j,h]
   rw[l];rw[h]at c2;simp only[AU]at c2;have m:=qh c2;clear c2 j h l i
   go_enter func98,ntmps98
   go_wp2_with fail
   refine nxa (o.o _) λG d=>?_
   go_wp2_with fail
   refine nxb (m.o _) d λH g=>?_;go_wp2;go_ret2;exact⟨rfl,g.o⟩
  |some y =>
   rw[h]at c2;simp only[AU]at c2;have m:=qh c2;clear c2;have k:=(AS h).2;have D:fits (x.num.natAbs*y.den):=Bl i.1 k.2;have E:fits (y.num.natAbs*x.den):=Bl k.1 i.2;have B:fits (x.num.natAbs*y.den+y.num.natAbs*x.den):=FE i.1 k.2 k.1 i.2;have C:fits (x.den*y.den):=Bl i.2 k.2;have l:AZ a b=limR (x+y):=by unfold AZ;rw[j,h]
   have c6:=λc=>Hb (sumF (negQ x) (x.num.natAbs*y.den) (negQ y) (y.num.natAbs*x.den)).1 (sumF (negQ x) (x.num.natAbs*y.den) (negQ y) (y.num.natAbs*x.den)).2 (x.den*y.den) c (Cd B (Kv _ _ _ _)) C (Nat.mul_ne_zero x.den_nz y.den_nz);rw[<-Lj x y]at c6;rw[l];have c3:=λc=>DF _ _ c (By i) (AX k) D;have c4:=λc=>DF _ _ c (By k) (AX i) E;have c5:=λc=>OO (negQ x) (negQ y) _ _ c B;have c7:=λc=>DF _ _ c (AX i) (AX k) C;generalize limR (x+y)=lr at *;obtain⟨ls,I⟩:=lr;replace c3:=qh c3;replace c4:=qh c4;replace c5:=qh c5;replace c6:=qh c6;replace c7:=qh c7;clear j h l i k D E B C
   go_enter func98,ntmps98
   go_wp2_with fail
   refine nxa (o.o _) λG d=>?_
   go_wp2_with fail
   refine nxb (m.o _) d λH g=>?_
   go_wp2_with fail
   refine nxb (c3.o _) g λJ p=>?_
   go_wp2_with fail
   refine nxb (c4.o _) p λK s=>?_
   go_wp2_with fail
   refine nxb (c5.o _) s λL u=>?_
   go_wp2_with fail
   refine nxb (c7.o _) u λN z=>?_
   go_wp2_with fail
   refine nxb (c6.o _) z λO A=>?_;go_wp2;go_ret2;exact⟨rfl,A.o⟩
def WK(a b:ByteArray)(w:World)(B:a.size<=9223372036854775807)(hb:b.size<=9223372036854775807):
  Calls prog 99 #[.string a,.string b] w (PairEnd (BR a b) w):=by
 have c1:=λi=>Dp a i B;have c2:=λi=>Dp b i hb;clear B hb;cases h:prs a with
 |none =>
  have j:BR a b=(str [],1):=by unfold BR;rw[h]
  rw[j];rw[h]at c1;simp only[AU]at c1;have o:=qh c1;clear c1 h j;cases g:prs b
  rotate_left
  all_goals
   rw[g]at c2;simp only[AU]at c2;have l:=qh c2;clear c2 g
   go_enter func99,ntmps99
   go_wp2_with fail
   refine nxa (o.o _) λC c=>?_
   go_wp2_with fail
   refine nxb (l.o _) c λD d=>?_;go_wp2;go_ret2;exact⟨rfl,d.o⟩
 |some x =>
  rw[h]at c1;simp only[AU]at c1;have o:=qh c1;clear c1;have k:=(AS h).2;cases g:prs b with
  |none =>
   have j:BR a b=(str [],1):=by unfold BR;rw[h,g]
   rw[j];rw[g]at c2;simp only[AU]at c2;have l:=qh c2;clear c2 h g j k
   go_enter func99,ntmps99
   go_wp2_with fail
   refine nxa (o.o _) λC c=>?_
   go_wp2_with fail
   refine nxb (l.o _) c λD d=>?_;go_wp2;go_ret2;exact⟨rfl,d.o⟩
  |some y =>
   rw[g]at c2;simp only[AU]at c2;have l:=qh c2;clear c2;have m:=(AS g).2;have z:fits (x.num.natAbs*y.num.natAbs):=Bl k.1 m.1;have A:fits (x.den*y.den):=Bl k.2 m.2;have j:BR a b=limR (x*y):=by unfold BR;rw[h,g]
   have c6:=λi=>Hb (negQ x != negQ y) (x.num.natAbs*y.num.natAbs) (x.den*y.den) i z A (Nat.mul_ne_zero x.den_nz y.den_nz);rw[<-Nh x y]at c6;rw[j];have c3:=λi=>DF _ _ i (By k) (By m) z;have c4:=λi=>DF _ _ i (AX k) (AX m) A;generalize limR (x*y)=lr at *;obtain⟨ls,E⟩:=lr;replace c3:=qh c3;replace c4:=qh c4;replace c6:=qh c6;clear h g j k m z A
   go_enter func99,ntmps99
   go_wp2_with fail
   refine nxa (o.o _) λC c=>?_
   go_wp2_with fail
   refine nxb (l.o _) c λD d=>?_
   go_wp2_with fail
   refine nxb (c3.o _) d λF p=>?_
   go_wp2_with fail
   refine nxb (c4.o _) p λG s=>?_
   go_wp2_with fail
   refine nxb (c6.o _) s λH u=>?_;go_wp2;go_ret2;exact⟨rfl,u.o⟩
def Wx(a b:ByteArray)(w:World)(E:a.size<=9223372036854775807)(hb:b.size<=9223372036854775807):
  Calls prog 231 #[.string a,.string b] w (PairEnd (Bn a b) w):=by
 have c1:=λj=>Dp a j E;have c2:=λj=>Dp b j hb;clear E hb;cases h:prs a with
 |none =>
  have i:Bn a b=(str [],1):=by unfold Bn;rw[h]
  rw[i];rw[h]at c1;simp only[AU]at c1;have p:=qh c1;clear c1 h i;cases g:prs b
  rotate_left
  all_goals
   rw[g]at c2;simp only[AU]at c2;have m:=qh c2;clear c2 g
   go_enter func231,ntmps231
   go_wp2_with fail
   refine nxa (p.o _) λC c=>?_
   go_wp2_with fail
   refine nxb (m.o _) c λD d=>?_;go_wp2;go_ret2;exact⟨rfl,d.o⟩
 |some x =>
  rw[h]at c1;simp only[AU]at c1;have p:=qh c1;clear c1;have l:=(AS h).2;cases g:prs b with
  |none =>
   have i:Bn a b=(str [],1):=by unfold Bn;rw[h,g]
   rw[i];rw[g]at c2;simp only[AU]at c2;have m:=qh c2;clear c2 h g i l
   go_enter func231,ntmps231
   go_wp2_with fail
   refine nxa (p.o _) λC c=>?_
   go_wp2_with fail
   refine nxb (m.o _) c λD d=>?_;go_wp2;go_ret2;exact⟨rfl,d.o⟩
  |some y =>
   rw[g]at c2;simp only[AU]at c2;have m:=qh c2;clear c2;have o:=(AS g).2;by_cases k:y=0
   ·have F:((str (dec y.num.natAbs)).toList==[48])=true:=by rw[k,Ko];rfl
    have i:Bn a b=(str [],4):=by unfold Bn;rw[h,g];exact ifp k
    rw[i];clear k i h g l o
    go_enter func231,ntmps231
    go_wp2_with fail
    refine nxa (p.o _) λC c=>?_
    go_wp2_with fail
    refine nxb (m.o _) c λD d=>?_;go_wp2;go_ret2;exact⟨rfl,d.o⟩
   have F:((str (dec y.num.natAbs)).toList==[48])=false:=OE<|λe=>k (Rat.num_eq_zero.1 (Int.natAbs_eq_zero.1 e));have A:fits (x.num.natAbs*y.den):=Bl l.1 o.2;have B:fits (x.den*y.num.natAbs):=Bl l.2 o.1;have i:Bn a b=limR (x / y):=by unfold Bn;rw[h,g];exact ifn k
   have c6:=λj=>Hb (negQ x != negQ y) (x.num.natAbs*y.den) (x.den*y.num.natAbs) j A B (Nat.mul_ne_zero x.den_nz (λe=>k (Rat.num_eq_zero.1 (Int.natAbs_eq_zero.1 e))));rw[<-Mf x y]at c6;rw[i];have c3:=λj=>DF _ _ j (By l) (AX o) A;have c4:=λj=>DF _ _ j (AX l) (By o) B;generalize limR (x / y)=lr at *;obtain⟨ls,G⟩:=lr;replace c3:=qh c3;replace c4:=qh c4;replace c6:=qh c6;clear h g i l o A B k
   go_enter func231,ntmps231
   go_wp2_with fail
   refine nxa (p.o _) λC c=>?_
   go_wp2_with fail
   refine nxb (m.o _) c λD d=>?_
   go_wp2_with fail
   refine nxb (c3.o _) d λH s=>?_
   go_wp2_with fail
   refine nxb (c4.o _) s λI u=>?_
   go_wp2_with fail
   refine nxb (c6.o _) u λJ z=>?_;go_wp2;go_ret2;exact⟨rfl,z.o⟩
def OD(a b:ByteArray)(w:World)(E:a.size<=9223372036854775807)(hb:b.size<=9223372036854775807):
  Calls prog 136 #[.string a,.string b] w (IntEnd (Bm a b) w):=by
 have c1:=λi=>Dp a i E;have c2:=λi=>Dp b i hb;clear E hb;cases h:prs a with
 |none =>
  have j:Bm a b=0:=by unfold Bm;rw[h]
  rw[j];rw[h]at c1;simp only[AU]at c1;have p:=qh c1;clear c1 h j;cases g:prs b
  rotate_left
  all_goals
   rw[g]at c2;simp only[AU]at c2;have o:=qh c2;clear c2 g
   go_enter func136,ntmps136
   go_wp2_with fail
   refine nxa (p.o _) λG c=>?_
   go_wp2_with fail
   refine nxb (o.o _) c λH d=>?_;go_wp2;go_ret;exact⟨rfl,d.o⟩
 |some x =>
  rw[h]at c1;simp only[AU]at c1;have p:=qh c1;clear c1;have k:=(AS h).2;cases g:prs b with
  |none =>
   have j:Bm a b=0:=by unfold Bm;rw[h,g]
   rw[j];rw[g]at c2;simp only[AU]at c2;have o:=qh c2;clear c2 h g j k
   go_enter func136,ntmps136
   go_wp2_with fail
   refine nxa (p.o _) λG c=>?_
   go_wp2_with fail
   refine nxb (o.o _) c λH d=>?_;go_wp2;go_ret;exact⟨rfl,d.o⟩
  |some y =>
   rw[g]at c2;simp only[AU]at c2;have o:=qh c2;clear c2;have l:=(AS g).2;have B:fits (x.num.natAbs*y.den):=Bl k.1 l.2;have C:fits (y.num.natAbs*x.den):=Bl l.1 k.2;have D:fits (x.num.natAbs*y.den+y.num.natAbs*x.den):=FE k.1 l.2 l.1 k.2;have j:Bm a b=cmpQ x y:=by unfold Bm;rw[h,g]
   rw[j,LL x y];have c3:=λi=>DF _ _ i (By k) (AX l) B;have c4:=λi=>DF _ _ i (By l) (AX k) C;have c5:=λi=>OO (negQ x) (!negQ y) _ _ i D;generalize sumF (negQ x) (x.num.natAbs*y.den) (!negQ y) (y.num.natAbs*x.den)=r at *;obtain⟨rs,F⟩:=r;have A:=Ko F;simp only at c5 A ⊢;replace c3:=qh c3;replace c4:=qh c4;replace c5:=qh c5;clear h g j k l B C D;by_cases m:F=0;rw[decide_eq_true m]at A;rw[ifp m];clear m
   rotate_left
   rw[decide_eq_false m]at A;rw[ifn m];clear m;cases rs;simp only[Bool.false_eq_true,if_false]
   rotate_left
   simp only[if_true]
   all_goals
    go_enter func136,ntmps136
    go_wp2_with fail
    refine nxa (p.o _) λG c=>?_
    go_wp2_with fail
    refine nxb (o.o _) c λH d=>?_
    go_wp2_with fail
    refine nxb (c3.o _) d λI s=>?_
    go_wp2_with fail
    refine nxb (c4.o _) s λJ u=>?_
    go_wp2_with fail
    refine nxb (c5.o _) u λK z=>?_;go_wp2;go_ret;exact⟨rfl,z.o⟩
def Jf{q:Rat}(h:fitQ q):fitQ (-q):=EW.2<|szQ.neg (EW.1 h)
def WM(a b:ByteArray)(w:World)(l:a.size<=9223372036854775807)(hb:b.size<=9223372036854775807):
  Calls prog 230 #[.string a,.string b] w (PairEnd (BZ a b) w):=by
 have c1:=λo=>WL b o hb;have c2:=λo=>Pb a o l;cases d:prs b with
 |none =>
  have j:negF b=(str [],1):=by unfold negF;rw[d]
  have g:BZ a b=(str [],1):=by unfold BZ;rw[d];cases prs a<;>rfl
  rw[g];rw[j]at c1;have k:=qh c1;clear c1 c2 d j g l hb
  go_enter func230,ntmps230
  go_wp2_with fail
  refine nxa (k.o _) λz c=>?_;go_wp2;go_ret2;exact⟨rfl,c.o⟩
 |some y =>
  have m:=(AS d).2;have j:negF b=(txt (-y),0):=by unfold negF;rw[d];exact CX<|Jf m
  rw[j]at c1;cases i:prs a with
  |none =>
   have g:BZ a b=(str [],1):=by unfold BZ;rw[i]
   rw[g];rw[i]at c2;simp only[Option.isSome]at c2;generalize txt (-y)=ty at *;have k:=qh c1;clear c1;have p:=qh c2;clear c2 i d j g m l hb
   go_enter func230,ntmps230
   go_wp2_with fail
   refine nxa (k.o _) λz c=>?_
   go_wp2_with fail
   refine nxb (p.o _) c λB h=>?_;go_wp2;go_ret2;exact⟨rfl,h.o⟩
  |some x =>
   have u:=Bi<|Jf m;have A:=Dd<|Jf m;have g:BZ a b=AZ a (txt (-y)):=by unfold BZ AZ;rw[i,d,u];simp only;rw[Rat.sub_eq_add_neg]
   rw[g];rw[i]at c2;simp only[Option.isSome]at c2;have c3:=λo=>Kn a (txt (-y)) o l (by omega);generalize AZ a (txt (-y))=lr at *;obtain⟨ls,C⟩:=lr;generalize txt (-y)=ty at *;have k:=qh c1;clear c1;have p:=qh c2;clear c2;replace c3:=qh c3;clear i d j g m l hb u A
   go_enter func230,ntmps230
   go_wp2_with fail
   refine nxa (k.o _) λz c=>?_
   go_wp2_with fail
   refine nxb (p.o _) c λB h=>?_
   go_wp2_with fail
   refine nxb (c3.o _) h λD s=>?_;go_wp2;go_ret2;exact⟨rfl,s.o⟩
end
end Go.Proofs.YtpldocnhbdlgfaaGreatDoor
