/- Parts. -/
import Derived.Test.YtpldocnhbdlgfaaGreatDoorPa01
import Derived.BigQuiet
import Derived.Test.YtpldocnhbdlgfaaGreatDoorPa03
import Derived.Handy
import Derived.Deep.DrawnRows
namespace Go.Proofs.YtpldocnhbdlgfaaGreatDoor
set_option maxRecDepth 100000
set_option linter.all false
set_option maxHeartbeats 16000000
open Go Tryz
section
open Go.RowKit
variable{m n:Nat}{c xs:List Nat}
def cmpN(m n:Nat):Int:=if m<n then -1 else if n<m then 1 else 0
def Cq(h:m<n):cmpN m n=-1:=by unfold cmpN;rw[ifp h]
theorem CV(h:n<m):cmpN m n=1:=by unfold cmpN;rw[ifn (by omega),ifp h]
theorem DV(h:m=n):cmpN m n=0:=by unfold cmpN;rw[ifn (by omega),ifn (by omega)]
theorem JO(x:Int)(w:World):Calls prog 258 #[.int .u64 x] w λe w'=>e=.returned (.bool false)/\w=w':=by
 have h:(x != x)=false:=by simp
 go_enter func258,ntmps258
 go_wp2;go_ret;exact⟨rfl,rfl⟩
def Jm(x y:Nat)(w:World):Calls prog 244 #[.int .u64 (x:Int),.int .u64 (y:Int)] w λe w'=>e=.returned (.int .i64 (cmpN x y))/\w=w':=by
 rcases Nat.lt_trichotomy x y with h|h|h
 ·have c:=Cq h;have d:=qh c;clear c
  go_enter func244,ntmps244
  go_wp2_with (go_at_call 258;refine(JO _ _).mono ?_;rintro e w'⟨rfl,rfl⟩)
  go_ret;exact⟨BS d.o.symm,rfl⟩
 ·subst h;have c:=DV (rfl:x=x);have d:=qh c;clear c
  go_enter func244,ntmps244
  go_wp2_with (go_at_call 258;refine(JO _ _).mono ?_;rintro e w'⟨rfl,rfl⟩)
  go_ret;exact⟨BS d.o.symm,rfl⟩
 have c:=CV h;have d:=qh c;clear c
 go_enter func244,ntmps244
 go_wp2_with (go_at_call 258;refine(JO _ _).mono ?_;rintro e w'⟨rfl,rfl⟩)
 go_ret;exact⟨BS d.o.symm,rfl⟩
theorem FY(xs:List Nat)(k i:Nat):nth (xs.drop k) i=nth xs (k+i):=by simp[nth,List.getD_eq_getElem?_getD]
theorem Ml(xs:List Nat)(j:Nat):bval xs=bval (xs.take j)+BB ^ j*nth xs j+BB ^ (j+1)*bval (xs.drop (j+1)):=by
 rw[<-Bw];by_cases h:j+1<=xs.length
 ·have:=EQ (xs.take (j+1)) (xs.drop (j+1));rw[List.take_append_drop,List.length_take,Nat.min_eq_left h]at this;exact this
 rw[List.take_of_length_le (by omega),List.drop_of_length_le (by omega)];simp[bval]
theorem Nw(k:xs.length=c.length)(h:∀j,j<xs.length->nth xs j=nth c j):xs=c:=by
 apply List.ext_getElem k
 intro i d g;have:=h i d;rw[Db xs i d,Db c i g]at this;exact this
def Mj(l:Small xs)(k:xs.length=c.length)(j:Nat)(h:∀i,j<i->i<xs.length->nth xs i=nth c i)(d:nth xs j<nth c j):bval xs<bval c:=by
 rw[Ml xs j,Ml c j];have e:xs.drop (j+1)=c.drop (j+1):=Nw (by simp[k]) (λi hi=>by
  rw[FY,FY];rw[List.length_drop]at hi;exact h _ (by omega) (by omega))
 rw[e];have m:bval (xs.take j)<BB ^ j:=Nat.lt_of_lt_of_le (Cc (EF l j)) (Nat.pow_le_pow_right AM (by rw[List.length_take];omega));have g:BB ^ j*(nth xs j+1)<=BB ^ j*nth c j:=Nat.mul_le_mul_left _ d;rw[Nat.mul_add]at g;omega
def NB(h:(toB m).length<(toB n).length):m<n:=by
 rcases Nat.lt_or_ge m n with c|c
 ·exact c
 have:=Ej c;omega
def CmpEnd(m n:Nat)(w:World)(e:Ending)(w':World):Prop:=e=.returned (.int .i64 (cmpN m n))/\Below w.heap.size w w'
def cmpint(x y:Nat)(w:World):Calls prog 243 #[.int .i64 (x:Int),.int .i64 (y:Int)] w λe w'=>e=.returned (.int .i64 (cmpN x y))/\w=w':=by
 refine(Tryz.cmp_Compare_int x y w).mono λe w' h=>⟨?_,h.2.symm⟩;rw[h.1]
 apply BS
 unfold Lib.compareInt cmpN
 repeat' split
 all_goals first|rfl|omega
def FI(X Y:Value)(m n:Nat)(w:World)(U:Sl w .u64 X (toB m))(W:Sl w .u64 Y (toB n)):
  Calls prog 225 #[X,Y] w (CmpEnd m n w):=by
 obtain⟨ax,cx,bx,ox,rfl,A,Q,G,L,c⟩:=U.open;obtain⟨ay,cy,K,oy,rfl,B,R,H,N,d⟩:=W.open;unfold maxLen at G H;clear U W;by_cases J:(toB m).length=(toB n).length
 ·have I:(((toB m).length:Int) != ((toB n).length:Int))=false:=by rw[J];simp
  go_enter func225,ntmps225
  have u:=qh J;clear J;go_wp2;clear I
  go_loopw [19] (λi wr=>∃k:Nat,k<=(toB m).length/\i=.int .i64 k/\(∀j,(toB m).length-1-k<j->j<(toB m).length->nth (toB m) j=nth (toB n) j)/\(k=(toB m).length->0<k->nth (toB m) 0=nth (toB n) 0)/\Below w.heap.size w wr) (λi _=>(toB m).length-(intOf i).toNat)
  case atStart=>exact⟨0,Nat.zero_le _,rfl,λj C D=>by omega,λ_ h=>absurd h (Nat.lt_irrefl _),blr⟩
  obtain⟨k,hk,rfl,g,o,hb⟩:=hrel;replace g:=qh g;replace o:=qh o;replace hb:=qh hb;by_cases a1:k<(toB m).length
  ·obtain rfl:=A (by omega);obtain rfl:=B (by have:=u.o;omega);have c1:=(hb.o.cell (p:=(Ad bx (ox+((toB m).length-1-k)))) (L (by omega))).trans (c ((toB m).length-1-k) (by omega));have c2:=(hb.o.cell (p:=(Ad K (oy+((toB m).length-1-k)))) (N (by have:=u.o;omega))).trans (d ((toB m).length-1-k) (by have:=u.o;omega));have S:(((toB m).length:Int)-1-(k:Int))<((toB n).length:Int):=by have:=u.o;omega
   have T:0<=(((toB m).length:Int)-1-(k:Int)):=by omega
   clear A B c d
   rcases Nat.lt_trichotomy (nth (toB m) ((toB m).length-1-k)) (nth (toB n) ((toB m).length-1-k)) with l|l|l
   ·have z:=Cq l;have s:cmpN m n=-1:=Cq (by
     have:=Mj (AX m) u.o ((toB m).length-1-k) (λi C D=>g.o i C D) l
     rwa [AY,AY]at this)
    clear l;have E:=qh s;clear s;have F:=qh z;clear z
    go_wp2_with fail
    go_quiet ((go_at_call 244;exact Calls.quiet_of_same ((Jm _ _ _).mono λe O h=>⟨by rw[h.1,F.o],h.2.symm⟩)))
    go_wp2;go_ret;exact⟨BS E.o.symm,below_drewN hb.o _⟩
   ·have z:=DV l;have P:=qh l;clear l;have F:=qh z;clear z
    go_wp2_with fail
    go_quiet ((go_at_call 244;exact Calls.quiet_of_same ((Jm _ _ _).mono λe O h=>⟨by rw[h.1,F.o],h.2.symm⟩)))
    go_wp2;go_roundw
    case rel =>
     refine⟨k+1,by omega,by go_num,λj C D=>?_,λC _=>?_,below_drewN hb.o _⟩
     ·by_cases e:j=(toB m).length-1-k
      ·rw[e];exact P.o
      exact g.o j (by omega) D
     have:=P.o
     rwa [show (toB m).length-1-k=0 by omega]at this
    simp[intOf];omega
   have z:=CV l;have s:cmpN m n=1:=CV (by
    have:=Mj (AX n) u.o.symm ((toB m).length-1-k) (λi C D=>(g.o i C (by rw[u.o];exact D)).symm) l
    rwa [AY,AY]at this)
   clear l;have E:=qh s;clear s;have F:=qh z;clear z
   go_wp2_with fail
   go_quiet ((go_at_call 244;exact Calls.quiet_of_same ((Jm _ _ _).mono λe O h=>⟨by rw[h.1,F.o],h.2.symm⟩)))
   go_wp2;go_ret;exact⟨BS E.o.symm,below_drewN hb.o _⟩
  go_wp2;go_ret;have s:cmpN m n=0:=DV (by
   have e:toB m=toB n:=Nw u.o (λj hj=>by
    by_cases Z:j=0
    ·subst Z;exact o.o (by omega) (by omega)
    exact g.o j (by omega) hj)
   rw[<-AY m,e,AY])
  exact⟨BS s.symm,hb.o⟩
 have I:(((toB m).length:Int) != ((toB n).length:Int))=true:=by rw[bne_iff_ne];omega
 have s:cmpN (toB m).length (toB n).length=cmpN m n:=by
  rcases Nat.lt_or_ge (toB m).length (toB n).length with h|h
  ·rw[Cq h,Cq (NB h)]
  rw[CV (show (toB n).length<(toB m).length by omega),CV (NB (by omega))]
 have E:=qh s;clear s;clear J A B c d
 go_enter func225,ntmps225
 go_wp2_with (go_at_call 243;refine(cmpint _ _ _).mono ?_;rintro e O⟨rfl,rfl⟩)
 go_ret;exact⟨BS E.o,blr⟩
def padj:Nat->Nat->List UInt8|0,_=>[] |j+1,b=>padj j (b / 10)++[UInt8.ofNat (48+b % 10)]
theorem SP(j:Nat):∀(n b:Nat),1<=n->b<10 ^ j->dec (n*10 ^ j+b)=dec n++padj j b:=by
 induction j with
 |zero=>intro n b _ hb;simp at hb;subst hb;simp[padj]
 |succ j ih =>
  intro n b c hb;have h:10<=n*10 ^ (j+1)+b:=by
   have:1*10 ^ (j+1)<=n*10 ^ (j+1):=Nat.mul_le_mul_right _ c;have:1<=10 ^ j:=Nat.pow_pos (by omega);rw[Nat.pow_succ]at *;omega
  rw[Et (by omega)];have d:(n*10 ^ (j+1)+b) / 10=n*10 ^ j+b / 10:=by rw[Nat.pow_succ,<-Nat.mul_assoc];omega
  have g:(n*10 ^ (j+1)+b) % 10=b % 10:=by rw[Nat.pow_succ,<-Nat.mul_assoc];omega
  rw[d,g,ih n (b / 10) c (by rw[Nat.pow_succ]at hb;omega)];simp[padj]
theorem VI(j:Nat):padj j 0=List.replicate j 48:=by
 induction j with
 |zero=>rfl
 |succ j ih=>simp only[padj,Nat.zero_div,Nat.zero_mod,ih];rw[List.replicate_succ'];rfl
def VH(j:Nat):∀b,1<=j->b<10 ^ j->padj j b=List.replicate (j-(dec b).length) 48++dec b:=by
 induction j with
 |zero=>intro b h;omega
 |succ j ih =>
  intro b _ hb;by_cases h:b<10
  ·simp only[padj];rw[By h,Nat.div_eq_of_lt h,VI,Nat.mod_eq_of_lt h];simp
  have d:1<=j:=by
   rcases Nat.eq_zero_or_pos j with c|c
   ·subst c;simp at hb;omega
   exact c
  simp only[padj];rw[ih (b / 10) d (by rw[Nat.pow_succ]at hb;omega),Et h];simp
def SJ{n b:Nat}(hn:1<=n)(hb:b<BB):dec (b+BB*n)=dec n++(List.replicate (9-(dec b).length) 48++dec b):=by
 rw[Ao]at *;have h:b+1000000000*n=n*10 ^ 9+b:=by omega
 rw[h,SP 9 n b hn (by omega),VH 9 b (by omega) (by omega)]
theorem SN{b:Nat}(hb:b<BB):(dec b).length<=9:=by rw[Ao]at hb;exact BK.2 ⟨by omega,by omega⟩
noncomputable def topB(n k:Nat):List UInt8:=if k=0 then [] else dec (bval ((toB n).drop ((toB n).length-k)))
theorem Qg(n:Nat):topB n 0=[]:=rfl
def JB(xs:List Nat)(k:Nat)(c:k<xs.length):bval (xs.drop (xs.length-(k+1)))=nth xs (xs.length-1-k)+BB*bval (xs.drop (xs.length-k)):=by
 rw[List.drop_eq_getElem_cons (by omega),show xs.length-(k+1)+1=xs.length-k by omega];simp only[bval];rw[Db xs _ (by omega)]
 congr 2
 omega
def Yo(n:Nat)(h:n≠0):topB n 1=dec (nth (toB n) ((toB n).length-1)):=by
 have:=Ek h;unfold topB;rw[ifn (by omega),JB (toB n) 0 (by omega),Nat.sub_zero,Nat.sub_zero,List.drop_length];simp[bval]
theorem Yp(n:Nat)(h:n≠0)(k:Nat)(g:1<=k)(d:k<=(toB n).length):1<=bval ((toB n).drop ((toB n).length-k)):=by
 induction k with
 |zero=>omega
 |succ k ih =>
  rw[JB (toB n) k d]
  rcases Nat.eq_zero_or_pos k with c|c
  ·subst c;rw[Nat.sub_zero];have:=IN h;omega
  have:=ih c (by omega);have:BB*1<=BB*bval ((toB n).drop ((toB n).length-k)):=Nat.mul_le_mul_left _ this;have:=AM;omega
def Yq(n:Nat)(h:n≠0)(k:Nat)(c:1<=k)(d:k<(toB n).length):
  topB n (k+1)=topB n k++(List.replicate (9-(dec (nth (toB n) ((toB n).length-1-k))).length) 48++dec (nth (toB n) ((toB n).length-1-k))):=by
 unfold topB;rw[ifn (by omega),ifn (by omega),JB (toB n) k d,SJ (Yp n h k c (by omega)) (AX n _)]
theorem Qe(n:Nat)(h:n≠0):topB n (toB n).length=dec n:=by
 have:=Ek h;unfold topB;rw[ifn (by omega),Nat.sub_self,List.drop_zero,AY]
theorem Qf(n k:Nat):(topB n k).length<=9*k:=by
 unfold topB
 split
 ·simp
 have c:Small ((toB n).drop ((toB n).length-k)):=λi=>by rw[FY];exact AX n _
 have d:=Cc c;refine BK.2 ⟨Nat.lt_of_lt_of_le d ?_,by omega⟩;rw[pow9];exact Nat.pow_le_pow_right AM (by rw[List.length_drop];omega)
variable{B b:Nat}{w w':World}
abbrev TB:TypeId:=233
abbrev TU8:TypeId:=5
def Mh{l:Nat}{p:Value}{m:List Value}(h:Lib.BuilderAt TB TU8 B b p m w)(hb:Below l w w')(C:w.heap.size<=l):Lib.BuilderAt TB TU8 B b p m w':=by
 obtain⟨s,v,o,c,k⟩:=h;have z:=(Array.getElem?_eq_some_iff.1 o).1;refine⟨s,v,by rw[hb.block b (by omega)];exact o,⟨c.1,?_⟩,k⟩
 rcases c.2 with A|⟨g,j,cur,rfl,u,d,i⟩
 ·exact .inl A
 have:=(Array.getElem?_eq_some_iff.1 d).1;exact .inr ⟨g,j,cur,rfl,u,by rw[hb.block g (by omega)];exact d,i⟩
def JN{c:Nat}{d:List Value}(h:Lib.IsBuilder TB TU8 B b d w)(hb:Below c w w')(g:w.heap.size<=c):Lib.IsBuilder TB TU8 B b d w':=by
 rcases h with h|h
 ·exact .inl (Mh h hb g)
 exact .inr<|Mh h hb g
theorem byteCells_append(l r:List UInt8):Lib.byteCells l++Lib.byteCells r=Lib.byteCells (l++r):=by simp[Lib.byteCells]
theorem IG(l:List UInt8):Lib.strCells (str l)=Lib.byteCells l:=by simp[Lib.strCells,Lib.byteCells,str]
def TextEnd(n:Nat)(w:World)(e:Ending)(w':World):Prop:=e=.returned (.string (str (dec n)))/\Below w.heap.size w w'
def Ya(g:Value)(w:World)(d:Sl w .u64 g (toB 0)):Calls prog 223 #[g] w (TextEnd 0 w):=by
 obtain⟨h,i,rfl⟩:=d.shape;have c:(toB 0).length=0:=rfl;rw[c];clear c d
 go_enter func223,ntmps223
 go_wp2;go_ret;exact⟨Dt (by rw[By (by omega)];rfl),blr⟩
def TY(w:World):Lib.IsBuilder TB TU8 w.heap.size w.heap.size (Lib.byteCells []) (w.alloc (.cells #[.pointer none,.slice none 0 0] TB)) :=
 .inl ⟨nlr,.slice none 0 0,Go.heap_alloc_new w _,World.ownsRow_nil _ _ _ _,by simp[Value.ownBlock]⟩
theorem rep48(c:Nat):(⟨(Lib.repeatL (⟨#[48]⟩:ByteArray).data.toList c).toArray⟩:ByteArray)=str (List.replicate c 48):=by
 have:=Lib.repeatL_replicate 48 1 c;simp at this;show str (Lib.repeatL [48] c)=_;rw[this]
theorem XZ(vx:Value)(n:Nat)(J:n≠0)(w:World)(K:Sl w .u64 vx (toB n))(lx:(toB n).length<=100000)(Y:Tab w):Calls prog 223 #[vx] w (TextEnd n w):=by
 obtain⟨ax,cx,bx,ox,rfl,L,a1,P,N,l⟩:=K.open;have hl:=Ek J;obtain rfl:=L hl;have O:=N hl;have X:(((toB n).length:Int)==0)=false:=by rw[beq_eq_false_iff_ne];omega
 replace Y:=qh Y;replace J:=qh J;unfold maxLen at P;clear K L N
 go_enter func223,ntmps223
 go_wp2;clear X
 go_loopw [11] (λi wr=>∃k:Nat,k<=(toB n).length/\i=.int .i64 k/\Lib.IsBuilder TB TU8 w.heap.size w.heap.size (Lib.byteCells (topB n k)) wr/\Below w.heap.size w wr) (λi _=>(toB n).length-(intOf i).toNat)
 case atStart=>exact⟨0,Nat.zero_le _,rfl,TY w,blr.alloc nlr _⟩
 obtain⟨k,hk,rfl,d,hb⟩:=hrel;replace d:=qh d;replace hb:=qh hb;have I:=hb.o.size;by_cases W:k<(toB n).length
 ·have c1:=(hb.o.cell (p:=(Ad bx (ox+((toB n).length-1-k)))) O).trans (l ((toB n).length-1-k) (by omega));have B:=AX n ((toB n).length-1-k);have G:=SN B;have F:=ET<|nth (toB n) ((toB n).length-1-k);have R:0<=(((toB n).length:Int)-1-(k:Int)):=by omega
  obtain⟨x,K⟩:=exq<|nth (toB n) ((toB n).length-1-k);rw[<-K]at c1 B G F;have A:=TU x (by rw[Ao]at B;omega) wr (Y.o.below hb.o nlr);replace A:=qh A;have a8:=Qf n k;have a2:(str (dec x)).size<=9:=by rw[AH];exact G
  have a4:1<=(str (dec x)).size:=by rw[AH];exact F
  have Z:=qh K;clear K;clear l B F G;by_cases Q:k=0
  ·subst Q;rw[Nat.sub_zero]at c1;clear R
   go_wp2_with fail
   refine A.o.mono ?_;rintro e U⟨rfl,c⟩;have s:=JN d.o c nlr;have C:=qh s;clear s;have g:=qh c;clear c;have S:=g.o.size
   go_wp2_with fail
   refine(Tryz.Builder_WriteString w.heap.size w.heap.size _ (str (dec x)) U C.o (by rw[Qg];simp[Lib.byteCells];omega) (by omega)).mono ?_;rintro e w2⟨rfl,o,m⟩;have D:=qh o;clear o;have u:=qh m;clear m;go_wp2;go_roundw
   case rel =>
    refine⟨1,by omega,rfl,.inr ?_,hb.o.trans ((g.o.mono I).trans u.o)⟩;have:=D.o;rw[Qg,IG,byteCells_append,Z.o,Nat.sub_zero,List.nil_append]at this;rw[Yo n J.o];exact this
   simp[intOf];omega
  have a7:0<k:=by omega
  clear Q
  go_wp2_with fail
  refine A.o.mono ?_;rintro e U⟨rfl,c⟩;have s:=JN d.o c nlr;have C:=qh s;clear s;have g:=qh c;clear c;have S:=g.o.size
  go_wp2_with fail
  have e9:(9-((str (dec x)).size:Int))=((9-(str (dec x)).size:Nat):Int):=by omega
  rw[e9];clear e9;refine(Tryz.strings_Repeat ⟨#[48]⟩ (9-(str (dec x)).size) U (by omega) (by show 1*(9-(str (dec x)).size)<=140737488355328;omega)).mono ?_;rintro e w2⟨rfl,m⟩;rw[rep48];have T:=JN C.o m nlr;have D:=qh T;clear T;have u:=qh m;clear m;have a5:=u.o.size
  go_wp2_with fail
  refine(Tryz.Builder_WriteString w.heap.size w.heap.size _ (str (List.replicate (9-(str (dec x)).size) 48)) w2 D.o (by rw[Lib.byteCells_length,AH,List.length_replicate];omega) (by omega)).mono ?_;rintro e w3⟨rfl,h,z⟩;replace h:=qh h;replace z:=qh z;have a6:=z.o.size
  go_wp2_with fail
  refine(Tryz.Builder_WriteString w.heap.size w.heap.size _ (str (dec x)) w3 (.inr h.o) (by rw[List.length_append,Lib.byteCells_length,IG,Lib.byteCells_length,List.length_replicate];omega) (by omega)).mono ?_;rintro e w4⟨rfl,j,E⟩;replace j:=qh j;replace E:=qh E;go_wp2;go_roundw
  case rel =>
   refine⟨k+1,by omega,by go_num,.inr ?_,hb.o.trans ((g.o.mono I).trans ((u.o.mono (by omega)).trans (z.o.trans E.o)))⟩;have:=j.o;rw[IG,IG,byteCells_append,byteCells_append,AH,List.append_assoc,Z.o]at this;rw[Yq n J.o k (by omega) W];exact this
  simp[intOf];omega
 go_wp2_with fail
 have H:k=(toB n).length:=by omega
 refine(Tryz.Builder_String_any w.heap.size w.heap.size (topB n k) wr d.o I).mono ?_;rintro e U⟨rfl,c⟩;replace H:=qh H;have g:=qh c;clear c;go_wp2;go_ret;exact⟨Dt (by rw[H.o,Qe n J.o];rfl),hb.o.trans g.o⟩
def GB(c:Value)(n:Nat)(w:World)(g:Sl w .u64 c (toB n))(i:(toB n).length<=100000)(h:Tab w):Calls prog 223 #[c] w (TextEnd n w):=by
 by_cases d:n=0
 ·subst d;exact Ya c w g
 exact XZ c n d w g i h
variable{s:ByteArray}
def PairEnd(r:ByteArray × Nat)(w:World)(e:Ending)(w':World):Prop:=e=.returned (.tuple #[.string r.1,.int .i64 (r.2:Int)])/\Below w.heap.size w w'
def limS(n:Nat):ByteArray × Nat:=if (dec n).length<=1000 then (str (dec n),0) else (str [],2)
def vld(s:ByteArray):Bool:=As<|bts s
def val(s:ByteArray):Nat:=num<|bts s
def addF(s t:ByteArray):ByteArray × Nat:=if vld s&&vld t then limS (val s+val t) else (str [],1)
def subF(s t:ByteArray):ByteArray × Nat:=if vld s&&vld t then (if val s<val t then (str [],4) else (str (dec (val s-val t)),0)) else (str [],1)
def mulF(s t:ByteArray):ByteArray × Nat:=if vld s&&vld t then limS (val s*val t) else (str [],1)
def cmpF(s t:ByteArray):Int:=if vld s&&vld t then cmpN (val s) (val t) else 0
def Iw{c:ByteArray}{a b:Int}(h:s=c)(d:a=b):Ending.returned (.tuple #[.string s,.int .i64 a])=.returned (.tuple #[.string c,.int .i64 b]):=by rw[h,d]
theorem BI(h:vld s=true):1<=s.size/\s.size<=1000:=by
 obtain⟨c,d,_⟩:=Bc h;rw[Aq]at c d;exact⟨c,d⟩
def QB(h:vld s=true):dgts (bts s)=true:=(Bc h).2.2.2
def Vs{l:List UInt8}(h:dgts l=true)(k:Nat)(d:l.length<=9*k):num l<BB ^ k:=by
 have c:10 ^ l.length<=10 ^ (9*k):=Nat.pow_le_pow_right (by omega) d;rw[pow9]at c;exact Nat.lt_of_lt_of_le (Kf _ h) c
def Lo(h:vld s=true):val s<BB ^ 112:=Vs (QB h) 112 (by rw[Aq];have:=BI h;omega)
def CR(h:vld s=true):(toB (val s)).length<=112:=GE<|Lo h
def Co(s:ByteArray)(w:World)(c:s.size<=maxLen):
  Calls prog 196 #[.string s] w λe w'=>e=.returned (.bool (vld s))/\w=w':=YH s w c
def Cw(s:ByteArray)(w:World)(h:vld s=true):Calls prog 201 #[.string s] w (BlocksEnd (val s) w):=RN s w (BI h).2 (QB h)
def Nv(j:Value)(n:Nat)(w:World)(o:Sl w .u64 j (toB n))(p:(toB n).length<=100000)(m:Tab w):
  Calls prog 202 #[j] w (PairEnd (limS n) w):=by
 have c:=Qf n (toB n).length;have l:(dec n).length<=900000\/n=0:=by
  by_cases k:n=0
  ·exact .inr k
  rw[Qe n k]at c;exact .inl (by omega)
 have d:(dec n).length<=900000:=by
  rcases l with h|h
  ·exact h
  subst h;rw[By (by omega)];simp
 clear c l;have u:(str (dec n)).size<=900000:=by rw[AH];exact d
 have g:=GB j n w o p m;replace g:=qh g;clear o m p;by_cases h:(dec n).length<=1000;have i:limS n=(str (dec n),0):=by unfold limS;rw[ifp h]
 have s:(str (dec n)).size<=1000:=by rw[AH];exact h
 rotate_left
 have i:limS n=(str [],2):=by unfold limS;rw[ifn h]
 have s:1000<(str (dec n)).size:=by rw[AH];omega
 all_goals
  rw[i];clear i h d
  go_enter func202,ntmps202
  go_wp2_with fail
  refine g.o.mono ?_;rintro e z⟨rfl,hb⟩;replace hb:=qh hb;go_wp2;go_ret2;exact⟨rfl,hb.o⟩
def Ri(s t:ByteArray)(w:World)(K:s.size<=maxLen)(L:t.size<=maxLen)(l:Tab w):
  Calls prog 198 #[.string s,.string t] w (PairEnd (addF s t) w):=by
 have D:=qh l;clear l;have c1:=Co s w K;have c2:=Co t w L;clear K L;cases c:vld s with
 |false =>
  have k:addF s t=(str [],1):=by unfold addF;rw[c];rfl
  rw[k];rw[c]at c1;clear k c c2 D;have z:=qh c1;clear c1
  go_enter func198,ntmps198
  go_wp2_with fail
  refine z.o.mono ?_;rintro e A⟨rfl,rfl⟩;go_wp2;go_ret2;exact⟨rfl,blr⟩
 |true =>
  cases h:vld t with
  |false =>
   have k:addF s t=(str [],1):=by unfold addF;rw[c,h];rfl
   rw[k];rw[c]at c1;rw[h]at c2;clear k c h D;have z:=qh c1;clear c1;have B:=qh c2;clear c2
   go_enter func198,ntmps198
   go_wp2_with fail
   refine z.o.mono ?_;rintro e A⟨rfl,rfl⟩
   go_wp2_with fail
   refine B.o.mono ?_;rintro e A⟨rfl,rfl⟩;go_wp2;go_ret2;exact⟨rfl,blr⟩
  |true =>
   rw[c]at c1;rw[h]at c2;have z:=qh c1;clear c1;have B:=qh c2;clear c2;have U:=CR c;have W:=CR h;have E:=Cw s w c;replace E:=qh E;have F:=λw=>Cw t w h;replace F:=qh F;have H:=qh c;clear c;have I:=qh h;clear h;have k:addF s t=limS (val s+val t):=by unfold addF;rw[H.o,I.o];rfl
   rw[k];clear k
   go_enter func198,ntmps198
   go_wp2_with fail
   refine z.o.mono ?_;rintro e A⟨rfl,rfl⟩
   go_wp2_with fail
   refine B.o.mono ?_;rintro e A⟨rfl,rfl⟩
   go_wp2_with fail
   refine E.o.mono ?_;rintro e R⟨v1,rfl,o,i⟩;replace o:=qh o;replace i:=qh i;have G:=i.o.size
   go_wp2_with fail
   refine(F.o R).mono ?_;rintro e S⟨P,rfl,p,d⟩;replace p:=qh p;replace d:=qh d;have N:=d.o.size;have C:=qh<|o.o.sl.below d.o nlr
   go_wp2_with fail
   refine(We v1 P (val s) (val t) S C.o p.o.sl (by omega) (by omega)).mono ?_;rintro e T⟨Q,rfl,u,j⟩;replace u:=qh u;replace j:=qh j;have J:=qh<|i.o.trans ((d.o.mono G).trans (j.o.mono (by omega)));have g:=Nv Q (val s+val t) T u.o.sl (by
    have c:=Lo H.o;have h:=Lo I.o;have:val s+val t<BB ^ 113:=by
     have e:BB ^ 113=BB ^ 112*BB:=Nat.pow_succ ..;rw[e];have:BB ^ 112*2<=BB ^ 112*BB:=Nat.mul_le_mul_left _ EN;omega
    have:=GE this;omega) (D.o.below J.o nlr)
   replace g:=qh g
   go_wp2_with fail
   refine g.o.mono ?_;rintro e X⟨rfl,m⟩;replace m:=qh m;have O:=j.o.size;go_wp2;go_ret2;exact⟨rfl,J.o.trans (m.o.mono (by omega))⟩
def XN(s t:ByteArray)(w:World)(hs:s.size<=maxLen)(ht:t.size<=maxLen)(E:Tab w):
  Calls prog 200 #[.string s,.string t] w (PairEnd (subF s t) w):=by
 have X:=qh E;clear E;have c1:=Co s w hs;have c2:=Co t w ht;clear hs ht;cases i:vld s with
 |false =>
  have z:subF s t=(str [],1):=by unfold subF;rw[i];rfl
  rw[z];rw[i]at c1;clear z i c2 X;have O:=qh c1;clear c1
  go_enter func200,ntmps200
  go_wp2_with fail
  refine O.o.mono ?_;rintro e P⟨rfl,rfl⟩;go_wp2;go_ret2;exact⟨rfl,blr⟩
 |true =>
  cases A:vld t with
  |false =>
   have z:subF s t=(str [],1):=by unfold subF;rw[i,A];rfl
   rw[z];rw[i]at c1;rw[A]at c2;clear z i A X;have O:=qh c1;clear c1;have R:=qh c2;clear c2
   go_enter func200,ntmps200
   go_wp2_with fail
   refine O.o.mono ?_;rintro e P⟨rfl,rfl⟩
   go_wp2_with fail
   refine R.o.mono ?_;rintro e P⟨rfl,rfl⟩;go_wp2;go_ret2;exact⟨rfl,blr⟩
  |true =>
   rw[i]at c1;rw[A]at c2;have O:=qh c1;clear c1;have R:=qh c2;clear c2;have lm:=CR i;have ln:=CR A;have S:=Cw s w i;replace S:=qh S;have T:=λw=>Cw t w A;replace T:=qh T;replace i:=qh i;replace A:=qh A;by_cases o:val s<val t
   ·have z:subF s t=(str [],4):=by unfold subF;rw[i.o,A.o,ifp o];rfl
    have Q:cmpN (val s) (val t)=-1:=Cq o;rw[z];clear z o;have W:=qh Q;clear Q
    go_enter func200,ntmps200
    go_wp2_with fail
    refine O.o.mono ?_;rintro e P⟨rfl,rfl⟩
    go_wp2_with fail
    refine R.o.mono ?_;rintro e P⟨rfl,rfl⟩
    go_wp2_with fail
    refine S.o.mono ?_;rintro e w1⟨v1,rfl,p,k⟩;have G:=qh p;clear p;have j:=qh k;clear k;have N:=j.o.size
    go_wp2_with fail
    refine(T.o w1).mono ?_;rintro e w2⟨U,rfl,u,l⟩;have B:=qh u;clear u;have d:=qh l;clear l;have Z:=d.o.size;have C:=qh<|G.o.sl.below d.o nlr;have c:=FI v1 U (val s) (val t) w2 C.o B.o.sl;unfold CmpEnd at c;rw[W.o]at c;have F:=qh c;clear c
    go_wp2_with fail
    refine F.o.mono ?_;rintro e w3⟨rfl,m⟩;have g:=qh m;clear m;go_wp2;go_ret2;exact⟨rfl,j.o.trans ((d.o.mono N).trans (g.o.mono (by omega)))⟩
   have z:subF s t=(str (dec (val s-val t)),0):=by unfold subF;rw[i.o,A.o,ifn o];rfl
   have Q:cmpN (val s) (val t)=0\/cmpN (val s) (val t)=1:=by
    rcases Nat.lt_or_ge (val t) (val s) with h|h
    ·exact .inr (CV h)
    exact .inl (DV (by omega))
   have I:val t<=val s:=by omega
   replace I:=qh I;rw[z];clear z o;have Y:∃q:Int,cmpN (val s) (val t)=q/\0<=q:=by
    rcases Q with h|h
    ·exact⟨0,h,by omega⟩
    exact⟨1,h,by omega⟩
   obtain⟨q,hq,a1⟩:=Y;clear Q;have W:=qh hq;clear hq
   go_enter func200,ntmps200
   go_wp2_with fail
   refine O.o.mono ?_;rintro e P⟨rfl,rfl⟩
   go_wp2_with fail
   refine R.o.mono ?_;rintro e P⟨rfl,rfl⟩
   go_wp2_with fail
   refine S.o.mono ?_;rintro e w1⟨v1,rfl,p,k⟩;have G:=qh p;clear p;have j:=qh k;clear k;have N:=j.o.size
   go_wp2_with fail
   refine(T.o w1).mono ?_;rintro e w2⟨U,rfl,u,l⟩;have B:=qh u;clear u;have d:=qh l;clear l;have Z:=d.o.size;have C:=qh<|G.o.sl.below d.o nlr;have c:=FI v1 U (val s) (val t) w2 C.o B.o.sl;unfold CmpEnd at c;rw[W.o]at c;have F:=qh c;clear c
   go_wp2_with fail
   refine F.o.mono ?_;rintro e w3⟨rfl,m⟩;have g:=qh m;clear m;have a2:=g.o.size;have J:=UR v1 U (val s) (val t) w3 (C.o.below g.o nlr) (B.o.sl.below g.o nlr) (by omega) (by omega) I.o;replace J:=qh J
   go_wp2_with fail
   refine J.o.mono ?_;rintro e w4⟨v4,rfl,K,D⟩;replace K:=qh K;replace D:=qh D;have a4:=D.o.size;have HB:=qh<|j.o.trans ((d.o.mono N).trans ((g.o.mono (by omega)).trans (D.o.mono (by omega))));have L:=GB v4 (val s-val t) w4 K.o.sl (by have:=Ej<|Nat.sub_le (val s) (val t);omega) (X.o.below HB.o nlr);replace L:=qh L
   go_wp2_with fail
   refine L.o.mono ?_;rintro e w5⟨rfl,H⟩;replace H:=qh H;go_wp2;go_ret2;exact⟨rfl,HB.o.trans (H.o.mono (by omega))⟩
def IntEnd(q:Int)(w:World)(e:Ending)(w':World):Prop:=e=.returned (.int .i64 q)/\Below w.heap.size w w'
def Su(s t:ByteArray)(w:World)(D:s.size<=maxLen)(E:t.size<=maxLen):
  Calls prog 199 #[.string s,.string t] w (IntEnd (cmpF s t) w):=by
 have c1:=Co s w D;have c2:=Co t w E;clear D E;cases c:vld s with
 |false =>
  have j:cmpF s t=0:=by unfold cmpF;rw[c];rfl
  rw[j];rw[c]at c1;clear j c c2;have o:=qh c1;clear c1
  go_enter func199,ntmps199
  go_wp2_with fail
  refine o.o.mono ?_;rintro e p⟨rfl,rfl⟩;go_wp2;go_ret;exact⟨rfl,blr⟩
 |true =>
  cases g:vld t with
  |false =>
   have j:cmpF s t=0:=by unfold cmpF;rw[c,g];rfl
   rw[j];rw[c]at c1;rw[g]at c2;clear j c g;have o:=qh c1;clear c1;have u:=qh c2;clear c2
   go_enter func199,ntmps199
   go_wp2_with fail
   refine o.o.mono ?_;rintro e p⟨rfl,rfl⟩
   go_wp2_with fail
   refine u.o.mono ?_;rintro e p⟨rfl,rfl⟩;go_wp2;go_ret;exact⟨rfl,blr⟩
  |true =>
   rw[c]at c1;rw[g]at c2;have o:=qh c1;clear c1;have u:=qh c2;clear c2;have J:=CR c;have K:=CR g;have A:=Cw s w c;replace A:=qh A;have B:=λw=>Cw t w g;replace B:=qh B;replace c:=qh c;replace g:=qh g;have j:cmpF s t=cmpN (val s) (val t):=by unfold cmpF;rw[c.o,g.o];rfl
   rw[j];clear j
   go_enter func199,ntmps199
   go_wp2_with fail
   refine o.o.mono ?_;rintro e p⟨rfl,rfl⟩
   go_wp2_with fail
   refine u.o.mono ?_;rintro e p⟨rfl,rfl⟩
   go_wp2_with fail
   refine A.o.mono ?_;rintro e H⟨v1,rfl,l,h⟩;replace l:=qh l;replace h:=qh h;have C:=h.o.size
   go_wp2_with fail
   refine(B.o H).mono ?_;rintro e I⟨G,rfl,m,d⟩;replace m:=qh m;replace d:=qh d;have F:=d.o.size;have z:=qh<|l.o.sl.below d.o nlr;have i:=FI v1 G (val s) (val t) I z.o m.o.sl;unfold CmpEnd at i;replace i:=qh i
   go_wp2_with fail
   refine i.o.mono ?_;rintro e L⟨rfl,k⟩;replace k:=qh k;go_wp2;go_ret;exact⟨rfl,h.o.trans ((d.o.mono C).trans (k.o.mono (by omega)))⟩
variable{L d:List Nat}{c cap g i:Nat}{e:TypeId}{k:IntKind}
def Fl(L:List Nat)(j v i:Nat)(h:j<L.length):nth (L.set j v) i=if i=j then v else nth L i:=by
 unfold nth;simp only[List.getD_eq_getElem?_getD,List.getElem?_set];by_cases e:j=i
 ·subst e;simp[h]
 rw[ifn e,ifn (λc=>e c.symm)]
theorem Gv(h:Small L)(j v:Nat)(d:v<BB):Small (L.set j v):=λi=>by
 by_cases c:j<L.length
 ·rw[Fl L j v i c];split
  ·exact d
  exact h i
 rw[List.set_eq_of_length_le (by omega)];exact h i
def RX(L:List Nat):∀(j v:Nat),j<L.length->bval (L.set j v)+BB ^ j*nth L j=bval L+BB ^ j*v:=by
 induction L with
 |nil=>intro j v h;simp at h
 |cons x L ih =>
  intro j v h;cases j with
  |zero=>simp only[List.set_cons_zero,bval,Ke,Nat.pow_zero];omega
  |succ j =>
   have:=ih j v (by simpa using h);simp only[List.set_cons_succ,bval,Ie,Nat.pow_succ];have e:BB*(bval (L.set j v)+BB ^ j*nth L j)=BB*(bval L+BB ^ j*v):=by rw[this]
   rw[Nat.mul_add,Nat.mul_add,<-Nat.mul_assoc,<-Nat.mul_assoc,Nat.mul_comm BB (BB ^ j)]at e;omega
theorem RV(k:Nat):bval (List.replicate k 0)=0:=Mo (λi=>by unfold nth;simp[List.getD_eq_getElem?_getD,List.getElem?_replicate];split<;>rfl)
def PF(k:Nat):Small (List.replicate k 0):=λi=>by
 have:nth (List.replicate k 0) i=0:=by unfold nth;simp[List.getD_eq_getElem?_getD,List.getElem?_replicate];split<;>rfl
 rw[this];exact AM
structure MulIn(xs ys L:List Nat)(i k c:Nat):Prop where
 small:Small L
 carry:c<BB
 len:L.length=xs.length+ys.length+1
 val:bval L+BB ^ (i+k)*c=bval (xs.take i)*bval ys+BB ^ i*(nth xs i*bval (ys.take k))
structure MulOut(xs ys L:List Nat)(i:Nat):Prop where
 small:Small L
 len:L.length=xs.length+ys.length+1
 val:bval L=bval (xs.take i)*bval ys
theorem MulOut.start(xs c:List Nat):MulOut xs c (List.replicate (xs.length+c.length+1) 0) 0 :=
 ⟨PF _,by simp,by rw[RV];simp[bval]⟩
def MulOut.inner{c:List Nat}(h:MulOut xs c L i):MulIn xs c L i 0 0 :=
 ⟨h.small,AM,h.len,by rw[h.val];simp[bval]⟩
def Kb{l x y:Nat}(d:l<BB)(g:c<BB)(h:x<BB)(i:y<BB):l+c+x*y<1000000000*1000000000:=by
 rw[Ao]at *;have:x*y<=999999999*999999999:=Nat.mul_le_mul (by omega) (by omega);omega
def MulIn.step{k:Nat}(h:MulIn xs d L i k c)(u:Small xs)(z:Small d)(hi:i<xs.length)(A:k<d.length+1):
  MulIn xs d (L.set (i+k) ((nth L (i+k)+c+nth xs i*nth d k) % 1000000000)) i (k+1) ((nth L (i+k)+c+nth xs i*nth d k) / 1000000000):=by
 have hb:=Kb (h.small (i+k)) h.carry (u i) (z k);have g:i+k<L.length:=by rw[h.len];omega
 have l:=RX L (i+k) ((nth L (i+k)+c+nth xs i*nth d k) % 1000000000) g;have m:=h.val;have j:=Bw d k;generalize hp:nth L (i+k)+c+nth xs i*nth d k=p at *;have o:BB ^ (i+k)*nth L (i+k)+BB ^ (i+k)*c+BB ^ (i+k)*(nth xs i*nth d k)=BB ^ (i+k)*p:=by rw[<-hp,Nat.mul_add,Nat.mul_add]
 have s:BB ^ (i+k)*p=BB ^ (i+k)*(p % 1000000000)+BB ^ (i+k)*BB*(p / 1000000000):=by
  rw[Nat.mul_assoc,<-Nat.mul_add,Ao,Nat.mod_add_div]
 refine⟨Gv h.small _ _ (by rw[Ao];exact Nat.mod_lt _ (by omega)),by rw[Ao];omega,by simp[h.len],?_⟩;rw[j,Nat.mul_add,Nat.mul_add,show i+(k+1)=i+k+1 by omega,Nat.pow_succ BB (i+k)];have e:BB ^ i*(nth xs i*(BB ^ k*nth d k))=BB ^ (i+k)*(nth xs i*nth d k):=by
  rw[Nat.pow_add,Nat.mul_left_comm (nth xs i),Nat.mul_assoc]
 rw[e];omega
def MulIn.done(h:MulIn xs d L i (d.length+1) c)(m:Small xs)(o:Small d)(hi:i<xs.length):MulOut xs d L (i+1):=by
 refine⟨h.small,h.len,?_⟩;have g:=h.val;rw[Cn (by omega:d.length<=d.length+1)]at g;have e:bval (xs.take i)*bval d+BB ^ i*(nth xs i*bval d)=bval (xs.take (i+1))*bval d:=by
  rw[Bw,Nat.add_mul,Nat.mul_assoc]
 rw[e]at g;have k:bval (xs.take (i+1))<BB ^ (i+1):=by
  have:=Cc<|EF m (i+1);rw[List.length_take,Nat.min_eq_left (by omega)]at this;exact this
 have p:=Cc o;have l:bval (xs.take (i+1))*bval d<BB ^ (i+1)*BB ^ d.length:=by
  have s:bval (xs.take (i+1))*bval d<=bval (xs.take (i+1))*BB ^ d.length:=Nat.mul_le_mul_left _ (by omega);have u:bval (xs.take (i+1))*BB ^ d.length<BB ^ (i+1)*BB ^ d.length:=Nat.mul_lt_mul_of_pos_right k (Nat.pow_pos AM);omega
 rw[<-Nat.pow_add,show i+1+d.length=i+(d.length+1) by omega]at l
 rcases Nat.eq_zero_or_pos c with j|j
 ·subst j;rw[Nat.mul_zero,Nat.add_zero]at g;exact g
 have:BB ^ (i+(d.length+1))*1<=BB ^ (i+(d.length+1))*c:=Nat.mul_le_mul_left _ j;omega
def MulOut.done{c:List Nat}(h:MulOut xs c L xs.length):bval L=bval xs*bval c:=by rw[h.val,List.take_length]
theorem Own.set{w:World}{B:Nat}{e:TypeId}{k:IntKind}{g n cap:Nat}{L:List Nat}(h:Own w B e k (.slice (some (Ad g 0)) n cap) L)(hn:L.length=n)(j v:Nat):
  Own (w.setCell (Ad g j) (.int k (v:Int))) B e k (.slice (some (Ad g 0)) n cap) (L.set j v):=by
 subst hn;have:=(World.ownsRow.stored h j (.int k (v:Int))).1;have c:(vals k L).set j (.int k (v:Int))=vals k (L.set j v):=by unfold vals;rw[List.map_set]
 rw[c]at this;unfold Own;rw[List.length_set];exact this
def Own.base(h:Own w B e k (.slice (some (Ad g c)) n cap) L):B<=g/\g<w.heap.size:=by
 have:=World.ownsRow.lt h g (by simp[Value.ownBlock]);exact this
theorem Own.cell(h:Own w B e k (.slice (some (Ad g 0)) n cap) L)(hn:L.length=n)(j:Nat)(c:j<n):w.cell? (Ad g j)=some (.int k ((nth L j:Nat):Int)):=by
 subst hn;rw[World.ownsRow.cellAt h j (by omega),Qy k L j c]
theorem Own.free(h:Own w B e k (.slice (some (Ad g 0)) n cap) L)(hn:L.length=n)(j:Nat):w.frozen? (Ad g j)=false:=by
 subst hn;exact World.ownsRow.frozenAt h j
theorem Lq(k:IntKind)(n:Nat):vals k (List.replicate n 0)=List.replicate n (.int k 0):=by simp[vals]
set_option maxRecDepth 100000 in
theorem Vb(s t:ByteArray)(w:World)(hs:s.size<=maxLen)(ht:t.size<=maxLen)(a2:Tab w):
  Calls prog 166 #[.string s,.string t] w (PairEnd (mulF s t) w):=by
 have HT:=qh a2;clear a2;have c1:=Co s w hs;have c2:=Co t w ht;clear hs ht;cases C:vld s with
 |false =>
  have hr:mulF s t=(str [],1):=by unfold mulF;rw[C];rfl
  rw[hr];rw[C]at c1;clear hr C c2 HT;have C1:=qh c1;clear c1
  go_enter func166,ntmps166
  go_wp2_with fail
  refine C1.o.mono ?_;rintro e w'⟨rfl,rfl⟩;go_wp2;go_ret2;exact⟨rfl,blr⟩
 |true =>
  cases S:vld t with
  |false =>
   have hr:mulF s t=(str [],1):=by unfold mulF;rw[C,S];rfl
   rw[hr];rw[C]at c1;rw[S]at c2;clear hr C S HT;have C1:=qh c1;clear c1;have C2:=qh c2;clear c2
   go_enter func166,ntmps166
   go_wp2_with fail
   refine C1.o.mono ?_;rintro e w'⟨rfl,rfl⟩
   go_wp2_with fail
   refine C2.o.mono ?_;rintro e w'⟨rfl,rfl⟩;go_wp2;go_ret2;exact⟨rfl,blr⟩
  |true =>
   rw[C]at c1;rw[S]at c2;have C1:=qh c1;clear c1;have C2:=qh c2;clear c2;have lm:=CR C;have ln:=CR S;have b1:=Cw s w C;replace b1:=qh b1;have b2:=λw=>Cw t w S;replace b2:=qh b2;have H1:=qh C;clear C;have H2:=qh S;clear S;have hr:mulF s t=limS (val s*val t):=by unfold mulF;rw[H1.o,H2.o];rfl
   rw[hr];clear hr
   go_enter func166,ntmps166
   go_wp2_with fail
   refine C1.o.mono ?_;rintro e w'⟨rfl,rfl⟩
   go_wp2_with fail
   refine C2.o.mono ?_;rintro e w'⟨rfl,rfl⟩
   go_wp2_with fail
   refine b1.o.mono ?_;rintro e w1⟨v1,rfl,d6,U⟩;have b9:=qh d6;clear d6;replace U:=qh U;have e6:=U.o.size
   go_wp2_with fail
   refine(b2.o w1).mono ?_;rintro e J⟨v2,rfl,Y,N⟩;replace Y:=qh Y;replace N:=qh N;have g0:=N.o.size;have d0:=qh<|b9.o.sl.below N.o nlr;obtain⟨i0,e7,e8,e9,f0⟩:=info_parts FR;have e4:=λx=>AX (val s) x;have F:Small (toB (val s)):=AX _;have G:Small (toB (val t)):=AX _;obtain⟨g,Z⟩:=exq<|toB (val s);obtain⟨d,a1⟩:=exq<|toB (val t);rw[<-Z]at d0 lm F;rw[<-a1]at Y ln G;replace Z:=qh Z;replace a1:=qh a1;replace F:=qh F;replace G:=qh G;clear e4 b9;obtain⟨ax,cx,bx,ox,rfl,a6,f1,d1,W,m⟩:=d0.o.open;obtain⟨ay,cy,e2,oy,rfl,a7,f2,d2,X,o⟩:=Y.o.sl.open;unfold maxLen at d1 d2;replace m:=qh m;replace o:=qh o;replace a6:=qh a6;replace a7:=qh a7;have e0:=qh W;clear W;have e1:=qh X;clear X;obtain⟨wm,d5,h,b0⟩:=run_make_full J w.heap.size 210 196 i0 (.int .u64 0) 1 underlying210 e7 e8 e9 .i64 .i64 (g.length+d.length+1) (by rw[f0];omega) (by unfold maxLen;omega) (by omega);rw[show ((g.length+d.length+1:Nat):Int)=(g.length:Int)+(d.length:Int)+1 by omega]at d5;have a9:Below w.heap.size w wm:=U.o.trans<|(N.o.mono e6).trans (blr.grown b0 (by omega) (by simp));have O:Below J.heap.size J wm:=blr.grown b0 nlr (by simp);have a5:Own wm w.heap.size 196 .u64 (.slice (some (Ad J.heap.size 0)) (g.length+d.length+1) (g.length+d.length+1)) (List.replicate (g.length+d.length+1) 0):=by
    unfold Own;rw[Lq,List.length_replicate];have:=h;rw[Nat.mul_one,show (Value.int .u64 0).cells=#[Value.int .u64 0] from rfl,toList_madeCells_one]at this;exact this
   replace a9:=qh a9;replace O:=qh O;replace a5:=qh a5;clear h b0;go_wp2;clear d5
   go_loopw [34] (λi wr=>∃(k:Nat) (L:List Nat),k<=g.length/\i=.int .i64 k/\MulOut g d L k/\Own wr w.heap.size 196 .u64 (.slice (some (Ad J.heap.size 0)) (g.length+d.length+1) (g.length+d.length+1)) L/\Below w.heap.size w wr/\Below J.heap.size J wr)
    (λi _=>g.length-(intOf i).toNat)
   case atStart=>exact⟨0,_,Nat.zero_le _,rfl,MulOut.start g d,a5.o,a9.o,O.o⟩
   obtain⟨i,L,f7,rfl,A,h,P,z⟩:=hrel;have b8:=qh A;clear A;have HO:=qh h;clear h;have T:=qh P;clear P;have b7:=qh z;clear z;obtain⟨wo,rfl⟩:∃wo:World,wo=wr:=⟨_,rfl⟩;by_cases b6:i<g.length
   ·obtain rfl:=a6.o (by omega);have W:=e0.o (by omega);go_wp2
    go_loopw [10,40] (λc q wr=>∃(k cc:Nat) (L:List Nat),k<=d.length+1/\q=.int .i64 k/\c=.int .u64 cc/\MulIn g d L i k cc/\Own wr w.heap.size 196 .u64 (.slice (some (Ad J.heap.size 0)) (g.length+d.length+1) (g.length+d.length+1)) L/\Below w.heap.size w wr/\Below J.heap.size J wr)
     (λ_ q _=>d.length+1-(intOf q).toNat)
    case atStart=>exact⟨0,0,L,Nat.zero_le _,rfl,rfl,b8.o.inner,HO.o,T.o,b7.o⟩
    obtain⟨k,cc,L',f8,rfl,rfl,u,h,P,z⟩:=hrel;replace u:=qh u;have D:=qh h;clear h;have K:=qh P;clear P;have j:=qh z;clear z;by_cases d4:k<d.length+1
    ·have R:=u.o.step F.o G.o b6 d4;have l:=u.o.len;have a4:=qh R;clear R;have cl:=D.o.cell l (i+k) (by omega);have fl:=D.o.free l (i+k);have d7:=Kb (u.o.small (i+k)) u.o.carry (F.o i) (G.o k);replace l:=qh l
     rcases Nat.lt_or_ge k d.length with b5|b5
     ·obtain rfl:=a7.o (by omega);have X:=e1.o (by omega);have c1:=(j.o.cell (p:=(Ad bx (ox+i))) W).trans (m.o i b6);have c2:=(j.o.cell (p:=(Ad e2 (oy+k))) X).trans (o.o k b5);have B:(((nth g i:Nat):Int)*((nth d k:Nat):Int))=((nth g i*nth d k:Nat):Int):=by simp
      have f3:((nth g i:Nat):Int)*((nth d k:Nat):Int)<=999999998000000001:=by
       have C:=F.o i;have S:=G.o k;rw[Ao]at C S;have:nth g i*nth d k<=999999999*999999999:=Nat.mul_le_mul (by omega) (by omega);rw[B];omega
      have f9:nth L' (i+k)<=999999999:=by have:=u.o.small<|i+k;rw[Ao]at this;omega
      have f5:cc<=999999999:=by have:=u.o.carry;rw[Ao]at this;omega
      have f4:0<=((nth g i:Nat):Int)*((nth d k:Nat):Int):=by rw[B];omega
      replace B:=qh B;clear d7
      go_wp2_with fail
      go_quiet (fail)
      go_wp2;go_roundw
      case rel =>
       have em:((nth L' (i+k):Nat):Int)+(cc:Int)+((nth g i:Nat):Int)*((nth d k:Nat):Int)=((nth L' (i+k)+cc+nth g i*nth d k:Nat):Int):=by rw[B.o];omega
       rw[em];have ho:=(D.o.kept (below_drewN (Below.refl _ wr) nq) nlr).set l.o (i+k) ((nth L' (i+k)+cc+nth g i*nth d k) % 1000000000);exact⟨k+1,_,_,by omega,by go_num,by go_num,a4.o,ho,(below_drewN K.o nq).setCell D.o.base.1 _,(below_drewN j.o nq).setCell nlr _⟩
      simp[intOf];omega
     have hz:nth d k=0:=AQ d k b5;have I:=a4.o;rw[hz,Nat.mul_zero,Nat.add_zero]at I;rw[hz,Nat.mul_zero,Nat.add_zero]at d7;replace I:=qh I;clear hz a4;go_wp2;go_roundw
     case rel =>
      have ho:=D.o.set l.o (i+k) ((nth L' (i+k)+cc) % 1000000000);exact⟨k+1,_,_,by omega,by go_num,by go_num,I.o,ho,K.o.setCell D.o.base.1 _,j.o.setCell nlr _⟩
     simp[intOf];omega
    have b4:k=d.length+1:=by omega
    replace b4:=qh b4;go_wp2;go_roundw
    case rel =>
     have C:=u.o;rw[b4.o]at C;exact⟨i+1,L',by omega,by go_num,C.done F.o G.o b6,D.o,K.o,j.o⟩
    simp[intOf];omega
   have b3:i=g.length:=by omega
   replace b3:=qh b3;have A:=b8.o;rw[b3.o]at A;have e5:=T.o.size;have d9:=EJ (some (Ad J.heap.size 0)) (g.length+d.length+1) L wo (by rw[A.len];exact HO.o.sl);rw[A.len]at d9;have H:=qh A;clear A
   go_wp2_with fail
   refine d9.mono ?_;rintro e w4⟨kk,hk,rfl,rfl⟩;replace hk:=qh hk;have hb:=H.o.done;have E:(toB (val s*val t))=L.take kk:=by
    rw[Fx H.o.small hk.o.1 hk.o.2.1 hk.o.2.2,hb,Z.o,a1.o,AY,AY]
   have e3:kk<=g.length+d.length+1:=by have:=hk.o.1;rw[H.o.len]at this;exact this
   have d8:Sl wo .u64 (.slice (some (Ad J.heap.size 0)) kk (g.length+d.length+1)) (toB (val s*val t)):=by
    rw[E];exact HO.o.sl.take (by rw[H.o.len];exact e3)
   have d3:(toB (val s*val t)).length<=100000:=by rw[E,List.length_take];omega
   have Q:=Nv _ (val s*val t) wo d8 d3 (HT.o.below T.o nlr);replace Q:=qh Q;clear d8 d3 E hb
   go_wp2_with fail
   refine Q.o.mono ?_;rintro e w5⟨rfl,a8⟩;replace a8:=qh a8;go_wp2;go_ret2;exact⟨rfl,T.o.trans (a8.o.mono e5)⟩
variable{q r:Nat}{c g j k m:List Nat}
structure Est(us vs:List Nat)(n q r:Nat):Prop where
 top:q*nth vs (n-1)+r=nth us n*BB+nth us (n-1)
 ge:bval us / bval vs<=q
structure DivIn(us vs:List Nat)(n:Nat):Prop where
 su:Small us
 sv:Small vs
 n1:1<=n
 lu:us.length=n+1
 lv:vs.length=n
 v1:1<=nth vs (n-1)
 lt:bval us<bval vs*BB
def Oy(h:1<=n):BB ^ n=BB ^ (n-1)*BB:=by
 obtain⟨k,rfl⟩:∃k,n=k+1:=⟨n-1,by omega⟩;exact Nat.pow_succ ..
def Oz(h:2<=n):BB ^ (n-1)=BB ^ (n-2)*BB:=by
 obtain⟨k,rfl⟩:∃k,n=k+2:=⟨n-2,by omega⟩;exact Nat.pow_succ ..
def Hf(h:xs.length=n+1)(i:1<=n):bval xs=bval (xs.take (n-1))+BB ^ (n-1)*(nth xs n*BB+nth xs (n-1)):=by
 have c:=Bw xs n;rw[Cn (by omega)]at c;have d:=Bw xs (n-1);rw[show n-1+1=n by omega]at d;have g:BB ^ n=BB ^ (n-1)*BB:=Oy i;rw[c,d,g,Nat.mul_add,<-Nat.mul_assoc,Nat.mul_assoc (BB ^ (n-1)) BB,Nat.mul_comm BB (nth xs n)];rw[Nat.mul_assoc];omega
def He(h:xs.length=n)(d:1<=n):bval xs=bval (xs.take (n-1))+BB ^ (n-1)*nth xs (n-1):=by
 have c:=Bw xs (n-1);rw[show n-1+1=n by omega,Cn (by omega)]at c;exact c
def GA(h:Small xs)(k:Nat)(c:k<=xs.length):bval (xs.take k)<BB ^ k:=by
 have:=Cc<|EF h k;rwa [List.length_take,Nat.min_eq_left c]at this
def DivIn.vpos(h:DivIn d c n):BB ^ (n-1)<=bval c:=by
 rw[He h.lv h.n1];have:BB ^ (n-1)*1<=BB ^ (n-1)*nth c (n-1):=Nat.mul_le_mul_left _ h.v1;omega
def DivIn.vpos'(h:DivIn d c n):0<bval c:=Nat.lt_of_lt_of_le (Nat.pow_pos AM) h.vpos
def DivIn.qlt(h:DivIn c d n):bval c / bval d<BB:=Nat.div_lt_of_lt_mul h.lt
theorem Est.start(h:DivIn c d n):
  Est c d n ((nth c n*BB+nth c (n-1)) / nth d (n-1)) ((nth c n*BB+nth c (n-1)) % nth d (n-1)):=by
 refine⟨by rw[Nat.mul_comm];exact Nat.div_add_mod _ _,?_⟩;rw[Nat.le_div_iff_mul_le h.v1];have i:=Nat.div_mul_le_self (bval c) (bval d);generalize bval c / bval d=Q at *;have j:=Hf h.lu h.n1;have k:=GA h.su (n-1) (by rw[h.lu];omega);have l:=He h.lv h.n1;have m:Q*(BB ^ (n-1)*nth d (n-1))<=Q*bval d:=Nat.mul_le_mul_left _ (by omega);have g:BB ^ (n-1)*(Q*nth d (n-1))<BB ^ (n-1)*(nth c n*BB+nth c (n-1)+1):=by
  rw[Nat.mul_left_comm,Nat.mul_add];omega
 have:=Nat.lt_of_mul_lt_mul_left g;omega
def Mn(h:xs.length=n+1)(g:2<=n):bval xs=bval (xs.take (n-2))+BB ^ (n-2)*((nth xs n*BB+nth xs (n-1))*BB+nth xs (n-2)):=by
 have c:=Bw xs (n-2);rw[show n-2+1=n-1 by omega]at c;rw[Hf h (by omega),c];have d:BB ^ (n-1)=BB ^ (n-2)*BB:=Oz g;rw[d,Nat.mul_add (BB ^ (n-2)),Nat.mul_assoc,Nat.mul_comm BB (nth xs n*BB+nth xs (n-1))];omega
def Mm(h:xs.length=n)(c:2<=n):bval xs=bval (xs.take (n-2))+BB ^ (n-2)*(nth xs (n-1)*BB+nth xs (n-2)):=by
 have:=Hf (n:=n-1) (xs:=xs) (by omega) (by omega)
 rwa [show n-1-1=n-2 by omega]at this
def Est.back(h:DivIn d c n)(k:Est d c n q r)(i:BB<=q\/(2<=n/\r*BB+nth d (n-2)<q*nth c (n-2))):
  1<=q/\Est d c n (q-1) (r+nth c (n-1)):=by
 have g:bval d / bval c<q:=by
  rcases i with i|⟨l,i⟩
  ·exact Nat.lt_of_lt_of_le h.qlt i
  rw[Nat.div_lt_iff_lt_mul h.vpos'];have p:=Mn h.lu l;have s:=Mm h.lv l;have u:=GA h.su (n-2) (by rw[h.lu];omega);have m:(nth d n*BB+nth d (n-1))*BB+nth d (n-2)+1<=q*(nth c (n-1)*BB+nth c (n-2)):=by
   rw[<-k.top,Nat.add_mul,Nat.mul_add,Nat.mul_assoc];omega
  have o:BB ^ (n-2)*((nth d n*BB+nth d (n-1))*BB+nth d (n-2)+1)<=BB ^ (n-2)*(q*(nth c (n-1)*BB+nth c (n-2))):=Nat.mul_le_mul_left _ m;have z:BB ^ (n-2)*(q*(nth c (n-1)*BB+nth c (n-2)))<=q*bval c:=by
   rw[Nat.mul_left_comm];exact Nat.mul_le_mul_left _ (by omega)
  rw[Nat.mul_add (BB ^ (n-2)) _ 1,Nat.mul_one]at o;omega
 have j:1<=q:=Nat.lt_of_le_of_lt nzl g;refine⟨j,?_,Nat.le_sub_one_of_lt g⟩;clear g;have:=k.top;have e:q*nth c (n-1)=(q-1)*nth c (n-1)+nth c (n-1):=by
  have:q=q-1+1:=by omega
  rw[this,Nat.add_mul,Nat.one_mul,Nat.add_sub_cancel]
 omega
def Est.done(h:DivIn d c n)(k:Est d c n q r)(p:q<BB)(s:n=1\/BB<=r\/(2<=n/\q*nth c (n-2)<=r*BB+nth d (n-2))):
  q*bval c<bval d+bval c:=by
 by_cases o:n=1
 ·subst o;have g:=Hf h.lu (by omega);have j:=He h.lv (by omega);simp only[Nat.sub_self,Nat.pow_zero,Nat.one_mul,List.take_zero,show bval []=0 from rfl,Nat.zero_add]at g j;have:=k.top;simp only[Nat.sub_self]at this;have:=h.vpos';rw[j]at *;omega
 have i:2<=n:=by have:=h.n1;omega
 have u:q*nth c (n-2)<=r*BB+nth d (n-2):=by
  rcases s with g|g|g
  ·omega
  ·have j:q*nth c (n-2)<=BB*BB:=Nat.mul_le_mul (by omega) (by have:=h.sv<|n-2;omega);have l:BB*BB<=r*BB:=Nat.mul_le_mul_right _ g;omega
  exact g.2
 have g:=Mn h.lu i;have j:=Mm h.lv i;have l:=GA h.sv (n-2) (by rw[h.lv];omega);have m:q*(nth c (n-1)*BB+nth c (n-2))<=(nth d n*BB+nth d (n-1))*BB+nth d (n-2):=by
  rw[<-k.top,Nat.add_mul,Nat.mul_add,Nat.mul_assoc];omega
 have z:BB ^ (n-2)*(q*(nth c (n-1)*BB+nth c (n-2)))<=BB ^ (n-2)*((nth d n*BB+nth d (n-1))*BB+nth d (n-2)):=Nat.mul_le_mul_left _ m;have A:q*bval c=q*bval (c.take (n-2))+BB ^ (n-2)*(q*(nth c (n-1)*BB+nth c (n-2))):=by
  rw[j,Nat.mul_add,Nat.mul_left_comm]
 have B:q*bval (c.take (n-2))<BB ^ (n-1):=by
  have e:BB ^ (n-1)=BB*BB ^ (n-2):=by rw[Nat.mul_comm];exact Oz i
  rw[e];exact Nat.mul_lt_mul_of_lt_of_le p (by omega) (Nat.pow_pos AM)
 have:=h.vpos;omega
structure SubIn(us vs us':List Nat)(q i c bo:Nat):Prop where
 len:us'.length=us.length
 small:Small us'
 carry:c<BB
 borrow:bo<=1
 same:∀j,i<=j->nth us' j=nth us j
 val:bval (us'.take i)+q*bval (vs.take i)=bval (us.take i)+BB ^ i*(c+bo)
theorem SubIn.start(c d:List Nat)(q:Nat)(h:Small c):SubIn c d c q 0 0 0:=⟨rfl,h,AM,by omega,λ_ _=>rfl,by simp[bval]⟩
theorem take_set(L:List Nat)(i v:Nat):(L.set i v).take i=L.take i:=by
 rw[List.take_set];apply List.set_eq_of_length_le;rw[List.length_take];omega
def dSub(u c b x:Nat):Nat:=u+1000000000-(c+x) % 1000000000-b
def Mz{u c b x:Nat}(hb:b<=1):((u:Int)+1000000000-((c:Int)+(x:Int)) % 1000000000-(b:Int))=((dSub u c b x:Nat):Int):=by unfold dSub;omega
def SubIn.step{c o:Nat}(h:SubIn k g m q i c o)(G:Small g)(E:q<BB)(hi:i<k.length):
  SubIn k g (m.set i (dSub (nth k i) c o (q*nth g i) % 1000000000)) q (i+1) ((c+q*nth g i) / 1000000000) (1-dSub (nth k i) c o (q*nth g i) / 1000000000):=by
 have hb:=Kb (l:=0) AM h.carry E (G i);rw[Nat.zero_add]at hb;have F:nth k i<BB:=by rw[<-h.same i nlr];exact h.small i
 have p:i<m.length:=by rw[h.len];exact hi
 have s:=h.val;have C:=h.carry;have B:=h.borrow;have I:(c+q*nth g i) % 1000000000<1000000000:=Nat.mod_lt _ (by omega);have D:(c+q*nth g i) % 1000000000+1000000000*((c+q*nth g i) / 1000000000)=c+q*nth g i:=Nat.mod_add_div _ _;rw[Ao]at F C;refine⟨by simp[h.len],Gv h.small _ _ (by rw[Ao];exact Nat.mod_lt _ (by omega)),by rw[Ao];omega,by omega,λj H=>?_,?_⟩
 ·rw[Fl _ _ _ _ p,ifn (by omega)];exact h.same j (by omega)
 rw[Bw,Bw g,Bw k,take_set,Fl _ _ _ _ p,ifp rfl,Nat.mul_add,Nat.pow_succ];generalize hd:dSub (nth k i) c o (q*nth g i)=d at *;unfold dSub at hd;generalize hx:q*nth g i=x at *;have u:q*(BB ^ i*nth g i)=BB ^ i*x:=by rw[Nat.mul_left_comm,hx]
 rw[u];have z:d % 1000000000+x+c+o=nth k i+BB*((c+x) / 1000000000+(1-d / 1000000000)):=by rw[Ao];omega
 have A:BB ^ i*(d % 1000000000+x+c+o)=BB ^ i*nth k i+BB ^ i*BB*((c+x) / 1000000000+(1-d / 1000000000)):=by rw[z,Nat.mul_add,Nat.mul_assoc]
 rw[Nat.mul_add,Nat.mul_add,Nat.mul_add]at A;rw[Nat.mul_add (BB ^ i)]at s;omega
def SubIn.last{c:Nat}(h:SubIn j d g q n c i)(k:d.length=n):(c+q*nth d n) / 1000000000=0:=by
 rw[AQ d n (by omega),Nat.mul_zero,Nat.add_zero];have:=h.carry;rw[Ao]at this;exact Nat.div_eq_of_lt this
def SubIn.done{i:List Nat}{k:Nat}(h:SubIn i j d q (n+1) 0 k)(l:i.length=n+1)(m:j.length=n):
  bval d+q*bval j=bval i+BB ^ (n+1)*k/\bval d<BB ^ (n+1):=by
 have c:=h.val;have g:=h.len;rw[Cn (by omega),Cn (by omega),Cn (by omega),Nat.zero_add]at c;have:=Cc h.small;rw[g,l]at this;exact⟨c,this⟩
theorem SubIn.fits(hd:DivIn c d n)(h:SubIn c d g q (n+1) 0 0)(m:bval c / bval d<=q):q=bval c / bval d/\bval g=bval c % bval d:=by
 obtain⟨j,k⟩:=h.done hd.lu hd.lv;rw[Nat.mul_zero,Nat.add_zero]at j;have l:q<=bval c / bval d:=by rw[Nat.le_div_iff_mul_le hd.vpos'];omega
 have i:q=bval c / bval d:=by omega
 refine⟨i,?_⟩;have:=Nat.div_add_mod (bval c) (bval d);rw[<-i,Nat.mul_comm]at this;omega
structure AddIn(us vs us':List Nat)(i c:Nat):Prop where
 len:us'.length=us.length
 small:Small us'
 carry:c<=1
 same:∀j,i<=j->nth us' j=nth us j
 val:bval (us'.take i)+BB ^ i*c=bval (us.take i)+bval (vs.take i)
theorem AddIn.start(c d:List Nat)(h:Small c):AddIn c d c 0 0:=⟨rfl,h,by omega,λ_ _=>rfl,by simp[bval]⟩
def AddIn.step{c:Nat}(h:AddIn d k g i c)(z:Small k)(hi:i<d.length):
  AddIn d k (g.set i ((nth d i+c+nth k i) % 1000000000)) (i+1) ((nth d i+c+nth k i) / 1000000000):=by
 have u:nth d i<BB:=by rw[<-h.same i nlr];exact h.small i
 have m:=z i;have l:i<g.length:=by rw[h.len];exact hi
 have o:=h.val;have A:=h.carry;rw[Ao]at u m;refine⟨by simp[h.len],Gv h.small _ _ (by rw[Ao];exact Nat.mod_lt _ (by omega)),by omega,λj B=>?_,?_⟩
 ·rw[Fl _ _ _ _ l,ifn (by omega)];exact h.same j (by omega)
 rw[Bw,Bw k,Bw d,take_set,Fl _ _ _ _ l,ifp rfl,Nat.pow_succ];generalize nth d i=a at *;generalize nth k i=x at *;have p:(a+c+x) % 1000000000+BB*((a+c+x) / 1000000000)=a+c+x:=by rw[Ao];omega
 have s:BB ^ i*(a+c+x)=BB ^ i*((a+c+x) % 1000000000)+BB ^ i*BB*((a+c+x) / 1000000000):=by rw[Nat.mul_assoc,<-Nat.mul_add,p]
 rw[Nat.mul_add,Nat.mul_add]at s;omega
theorem AddIn.fits{h:List Nat}{c:Nat}(hd:DivIn h d n)(A:SubIn h d m q (n+1) 0 1)(o:AddIn m d g (n+1) c)(L:bval h / bval d<=q)(G:q*bval d<bval h+bval d):
  1<=q/\q-1=bval h / bval d/\bval g=bval h % bval d:=by
 obtain⟨u,H⟩:=A.done hd.lu hd.lv;have k:=o.len;have p:=A.len;have l:=hd.lu;have F:=hd.lv;have i:=o.val;rw[Cn (by omega),Cn (by omega),Cn (by omega)]at i;have C:=Cc o.small;rw[k,p,l]at C;rw[Nat.mul_one]at u;have s:1<=q:=by
  rcases Nat.eq_zero_or_pos q with j|j
  ·subst j;rw[Nat.zero_mul]at u;have:=Cc hd.su;rw[l]at this;omega
  exact j
 have e:q*bval d=(q-1)*bval d+bval d:=by
  have:q=q-1+1:=by omega
  rw[this,Nat.add_mul,Nat.one_mul,Nat.add_sub_cancel]
 have E:c=1:=by
  have:=o.carry
  rcases Nat.eq_zero_or_pos c with j|j
  ·subst j;rw[Nat.mul_zero,Nat.add_zero]at i;omega
  omega
 subst E;rw[Nat.mul_one]at i;have D:(q-1)*bval d<=bval h:=by omega
 have I:bval g=bval h-(q-1)*bval d:=by omega
 have J:bval g<bval d:=by omega
 have z:q-1=bval h / bval d:=by
  have K:q-1<=bval h / bval d:=by rw[Nat.le_div_iff_mul_le hd.vpos'];exact D
  have B:bval h / bval d<q:=by rw[Nat.div_lt_iff_lt_mul hd.vpos'];omega
  omega
 refine⟨s,z,?_⟩;have:=Nat.div_add_mod (bval h) (bval d);rw[<-z,Nat.mul_comm]at this;omega
variable{r:Option Nat}
def JK(w:World)(r:Option Nat):w.grownBy w r:=⟨rfl,rfl,rfl,nlr,λ_ _ _=>rfl⟩
def Ua{i j:World}(h:w.grownBy i r)(c:i.grownBy j r):w.grownBy j r :=
 ⟨c.os.trans h.os,c.tape.trans h.tape,c.output.trans h.output,Nat.le_trans h.size c.size,λk g d=>(c.block k (Nat.lt_of_lt_of_le g h.size) d).trans (h.block k g d)⟩
def Dp{c:World}(h:w.grownBy c r)(n:Nat):w.grownBy (c.drewN n) r:=⟨h.os,h.tape,h.output,h.size,h.block⟩
def Fa{d:World}{g:Nat}(h:w.grownBy d (some g))(j:Nat)(v:Value):w.grownBy (d.setCell (Ad g j) v) (some g) :=
 Ua h ⟨rfl,rfl,rfl,by simp[World.setCell],λk _ c=>Below.heap_setCell _ _ _ _ (by intro e;apply c;rw[e])⟩
def FZ(A c C:List Nat)(i:Nat)(h:i<c.length):nth (A++c++C) (A.length+i)=nth c i:=by
 rw[FW _ _ _ (by rw[List.length_append];omega),FX _ _ _ (by omega),Nat.add_sub_cancel_left]
theorem set_mid(A c C:List Nat)(i v:Nat)(h:i<c.length):(A++c++C).set (A.length+i) v=A++c.set i v++C:=by
 rw[List.set_append_left _ _ (by rw[List.length_append];omega),List.set_append_right _ _ (by omega),Nat.add_sub_cancel_left]
def DigEnd(B g N cap:Nat)(A us C vs:List Nat)(w:World)(e:Ending)(w':World):Prop :=
 ∃us':List Nat,e=.returned (.int .u64 ((bval us / bval vs:Nat):Int))/\us'.length=us.length/\Small us'/\bval us'=bval us % bval vs/\
  Own w' B 196 .u64 (.slice (some (Ad g 0)) N cap) (A++us'++C)/\w.grownBy w' (some g)
set_option maxRecDepth 100000 in
theorem SY(B g N cap f2 bv ov cv n:Nat)(A u C j:List Nat)(w:World)(hN:(A++u++C).length=N)(d2:Own w B 196 .u64 (.slice (some (Ad g 0)) N cap) (A++u++C))
  (hd:DivIn u j n) (hn:n<=100000) (b8:bv≠g) (hv:∀i,i<n->w.cell? (Ad bv (ov+i))=some (.int .u64 ((nth j i:Nat):Int))) :
  Calls prog 236 #[.slice (some (Ad g A.length)) (n+1) f2,.slice (some (Ad bv ov)) n cv] w (DigEnd B g N cap A u C j w):=by
 replace hd:=qh hd;replace hN:=qh hN;have HO:=qh d2;clear d2;replace hv:=qh hv;have h1:=hd.o.n1;have p:=hd.o.lu;replace p:=qh p;have un:w.cell? (Ad g (A.length+n))=some (.int .u64 ((nth u n:Nat):Int)):=by
  have h:=HO.o.cell hN.o (A.length+n) (by rw[<-hN.o,List.length_append,List.length_append,p.o];omega)
  rwa [FZ _ _ _ _ (by rw[p.o];omega)]at h
 have i5:w.cell? (Ad g (A.length+(n-1)))=some (.int .u64 ((nth u (n-1):Nat):Int)):=by
  have h:=HO.o.cell hN.o (A.length+(n-1)) (by rw[<-hN.o,List.length_append,List.length_append,p.o];omega)
  rwa [FZ _ _ _ _ (by rw[p.o];omega)]at h
 have g4:=hv.o (n-1) (by omega);have i3:=hd.o.v1;have g0:=hd.o.su n;have d5:=hd.o.su<|n-1;rw[Ao]at g0 d5
 go_enter func236,ntmps236
 go_wp2_with fail
 go_quiet (fail)
 go_wp2_with fail
 go_quiet (fail)
 go_upto_block 0 with (fail)
 generalize hw2:(World.drewN _ _)=w2;have m:w.grownBy w2 (some g):=by rw[<-hw2];exact Dp (Dp (JK _ _) _) _
 have b1:Below w.heap.size w w2:=by rw[<-hw2];exact below_drewN (below_drewN blr _) _
 have o:Own w2 B 196 .u64 (.slice (some (Ad g 0)) N cap) (A++u++C):=HO.o.kept b1 nlr;have e7:=qh m;clear m;have e9:=qh o;clear o;clear hw2 b1 un i5 g4 HO
 go_cut [7,8] from 43 (λq r wx=>∃d K:Nat,q=.int .u64 (d:Int)/\r=.int .u64 (K:Int)/\d<BB/\bval u / bval j<=d/\d*bval j<bval u+bval j/\
   Own wx B 196 .u64 (.slice (some (Ad g 0)) N cap) (A++u++C)/\w.grownBy wx (some g))
 case first =>
  go_wp2_with fail
  go_loopw [7,8] (λq r wr=>∃d K:Nat,q=.int .u64 (d:Int)/\r=.int .u64 (K:Int)/\Est u j n d K/\
    Own wr B 196 .u64 (.slice (some (Ad g 0)) N cap) (A++u++C)/\w.grownBy wr (some g)) (λq _ _=>(intOf q).toNat)
  case atStart =>
   have he:=Est.start hd.o;rw[Ao]at he;exact⟨_,_,by go_num,by go_num,he,e9.o,e7.o⟩
  obtain⟨d,K,rfl,rfl,he,o,m⟩:=hrel;have d4:=he.top;have f9:=hd.o.su<|n-2;have g1:=hd.o.sv<|n-2;have i4:=hd.o.sv<|n-1;rw[Ao]at d4 f9 g1 i4;have j2:d<=999999999999999999:=by
   have:d*1<=d*nth j (n-1):=Nat.mul_le_mul_left _ i3;omega
  have j3:K<=999999999999999999:=by omega
  have f7:(((n:Int)-1).toNat)=n-1:=by omega
  have g4:wr.cell? (Ad bv (ov+(n-1)))=some (.int .u64 ((nth j (n-1):Nat):Int)):=m.cell (hv.o (n-1) (by omega)) (by simpa using b8);have d0:2<=n->wr.cell? (Ad g (A.length+(n-2)))=some (.int .u64 ((nth u (n-2):Nat):Int)):=λh2=>by
   have h:=o.cell hN.o (A.length+(n-2)) (by rw[<-hN.o,List.length_append,List.length_append,p.o];omega)
   rwa [FZ _ _ _ _ (by rw[p.o];omega)]at h
  have d1:2<=n->wr.cell? (Ad bv (ov+(n-2)))=some (.int .u64 ((nth j (n-2):Nat):Int)):=λh2=>m.cell (hv.o (n-2) (by omega)) (by simpa using b8);have HE:=qh he;clear he d4 f7;have E:=qh o;clear o;have D:=qh m;clear m;by_cases hA:BB<=d
  ·have a1:=HE.o.back hd.o (.inl hA);have F:=qh a1;clear a1;rw[Ao]at hA;have f3:(1000000000:Int)<=(d:Int):=by omega
   clear d0 d1
   go_wp2_with fail
   go_quiet (fail)
   go_wp2_with fail
   ·have b0:(1000000000:Int)<=(K:Int)+((nth j (n-1):Nat):Int):=by assumption
    have i9:(d:Int)-1<1000000000:=by assumption
    go_meet
    refine⟨d-1,K+nth j (n-1),by go_num,by go_num,by rw[Ao];omega,F.o.2.ge,F.o.2.done hd.o (by rw[Ao];omega) (.inr (.inl (by rw[Ao];omega))),E.o.kept (below_drewN (Below.refl _ wr) _) nlr,Dp D.o _⟩
   ·go_roundw
    case rel=>exact⟨d-1,K+nth j (n-1),by go_num,by go_num,F.o.2,E.o.kept (below_drewN (Below.refl _ wr) _) nlr,Dp D.o _⟩
    have:=F.o.1;simp[intOf];omega
   go_roundw
   case rel=>exact⟨d-1,K+nth j (n-1),by go_num,by go_num,F.o.2,E.o.kept (below_drewN (Below.refl _ wr) _) nlr,Dp D.o _⟩
   have:=F.o.1;simp[intOf];omega
  have e5:d<BB:=by omega
  have Y:=qh e5;clear e5;rw[Ao]at hA;have f3:decide ((1000000000:Int)<=(d:Int))=false:=by simp;omega
  by_cases b4:2<=n
  ·have g3:=d0 b4;have g5:=d1 b4;clear d0 d1;have H:((d:Int)*((nth j (n-2):Nat):Int))=((d*nth j (n-2):Nat):Int):=by simp
   obtain⟨P,hP⟩:=exq<|d*nth j (n-2);have h5:(P:Int)<=999999998000000001:=by
    have:d*nth j (n-2)<=999999999*999999999:=Nat.mul_le_mul (by omega) (by omega);omega
   have hw:IntKind.u64.wrap ((d:Int)*((nth j (n-2):Nat):Int))=(P:Int):=by
    rw[H,<-hP];exact IntWalk.u64_in _ ⟨by omega,by omega⟩
   replace hP:=qh hP;clear H;have f5:(1:Int)<(n:Int):=by omega
   by_cases h9:K<1000000000
   ·have d3:(K:Int)<1000000000:=by omega
    by_cases ht:K*1000000000+nth u (n-2)<P
    ·have a1:=HE.o.back hd.o (.inr ⟨b4,by rw[Ao,<-hP.o];exact ht⟩);have f8:(K:Int)*1000000000+((nth u (n-2):Nat):Int)<(P:Int):=by omega
     have b5:(1:Int)<=(d:Int):=by have:=a1.1;omega
     have F:=qh a1;clear a1 ht
     go_wp2_with fail
     go_quiet (fail)
     clear f8 hw h5;have i8:(d:Int)<=999999999:=by omega
     clear hA f3 h9 d3 f9 g1 g3 g5 b4 f5
     go_wp2_with fail
     ·have b0:(1000000000:Int)<=(K:Int)+((nth j (n-1):Nat):Int):=by assumption
      go_meet
      refine⟨d-1,K+nth j (n-1),by go_num,by go_num,by rw[Ao];omega,F.o.2.ge,F.o.2.done hd.o (by rw[Ao];omega) (.inr (.inl (by rw[Ao];omega))),E.o.kept (below_drewN (Below.refl _ wr) _) nlr,Dp D.o _⟩
     go_roundw
     case rel=>exact⟨d-1,K+nth j (n-1),by go_num,by go_num,F.o.2,E.o.kept (below_drewN (Below.refl _ wr) _) nlr,Dp D.o _⟩
     have:=F.o.1;simp[intOf];omega
    have f8:decide ((K:Int)*1000000000+((nth u (n-2):Nat):Int)<(P:Int))=false:=by simp;omega
    replace ht:=qh ht
    go_wp2_with fail
    go_quiet (fail)
    go_wp2_with fail
    go_meet
    exact⟨d,K,rfl,rfl,Y.o,HE.o.ge,HE.o.done hd.o Y.o (.inr (.inr ⟨b4,by have:=ht.o;rw[Ao,<-hP.o];omega⟩)),E.o.kept (below_drewN (Below.refl _ wr) _) nlr,Dp D.o _⟩
   have d3:decide ((K:Int)<1000000000)=false:=by simp;omega
   go_wp2_with fail
   go_quiet (fail)
   go_wp2_with fail
   go_meet
   exact⟨d,K,rfl,rfl,Y.o,HE.o.ge,HE.o.done hd.o Y.o (.inr (.inl (by rw[Ao];omega))),E.o.kept (below_drewN (Below.refl _ wr) _) nlr,Dp D.o _⟩
  have f5:decide ((1:Int)<(n:Int))=false:=by simp;omega
  clear d0 d1
  go_wp2_with fail
  go_quiet (fail)
  go_wp2_with fail
  go_meet
  exact⟨d,K,rfl,rfl,Y.o,HE.o.ge,HE.o.done hd.o Y.o (.inl (by omega)),E.o.kept (below_drewN (Below.refl _ wr) _) nlr,Dp D.o _⟩
 case rest =>
  obtain⟨d,K,rfl,rfl,b5,b9,e4,o,m⟩:=hcut;have e5:(d:Int)<=999999999:=by rw[Ao]at b5;omega
  have h4:=qh b5;clear b5;replace b9:=qh b9;replace e4:=qh e4;have h3:=qh o;clear o;have g7:=qh m;clear m;clear e9 e7 g0 d5
  go_wp2_with fail
  go_loopw [9,10,88] (λb c i wr=>∃(k Q W:Nat) (z:List Nat),k<=n+1/\i=.int .i64 (k:Int)/\c=.int .u64 (Q:Int)/\b=.int .u64 (W:Int)/\SubIn u j z d k Q W/\(k=n+1->Q=0)/\
    Own wr B 196 .u64 (.slice (some (Ad g 0)) N cap) (A++z++C)/\w.grownBy wr (some g)) (λ_ _ i _=>n+1-(intOf i).toNat)
  case atStart=>exact⟨0,0,0,u,Nat.zero_le _,rfl,rfl,rfl,SubIn.start u j d hd.o.su,λ_=>rfl,h3.o,g7.o⟩
  obtain⟨k,Q,W,z,hk,rfl,rfl,rfl,I,b2,o,m⟩:=hrel;have s:=I.len;rw[p.o]at s;have a9:(A++z++C).length=N:=by rw[<-hN.o,List.length_append,List.length_append,List.length_append,List.length_append,s,p.o]
  have T:=qh s;clear s;have a5:=qh a9;clear a9;have e8:=qh b2;clear b2;have O:=qh I;clear I;have X:=qh o;clear o;have a4:=qh m;clear m;by_cases e3:k<n+1
  ·have h7:(Q:Int)<=999999999:=by have:=O.o.carry;rw[Ao]at this;omega
   have j0:(W:Int)<=1:=by have:=O.o.borrow;omega
   have i2:((nth u k:Nat):Int)<=999999999:=by have:=hd.o.su k;rw[Ao]at this;omega
   have uc:wr.cell? (Ad g (A.length+k))=some (.int .u64 ((nth u k:Nat):Int)):=by
    have h:=X.o.cell a5.o (A.length+k) (by rw[<-a5.o,List.length_append,List.length_append,T.o];omega)
    rwa [FZ _ _ _ _ (by rw[T.o];omega),O.o.same k nlr]at h
   have uf:wr.frozen? (Ad g (A.length+k))=false:=X.o.free a5.o _;have J:=O.o.step hd.o.sv h4.o (by rw[p.o];exact e3);have Z:=qh J;clear J;by_cases d8:k<n
   ·have vc:wr.cell? (Ad bv (ov+k))=some (.int .u64 ((nth j k:Nat):Int)):=a4.o.cell (hv.o k d8) (by simpa using b8);have H:((d:Int)*((nth j k:Nat):Int))=((d*nth j k:Nat):Int):=by simp
    have i6:(d:Int)*((nth j k:Nat):Int)<=999999998000000001:=by
     have h2:=hd.o.sv k;rw[Ao]at h2;have:d*nth j k<=999999999*999999999:=Nat.mul_le_mul (by omega) (by omega);rw[H];omega
    have i7:0<=(d:Int)*((nth j k:Nat):Int):=by rw[H];omega
    have g9:=qh H;clear H;go_wp2;go_roundw
    case rel =>
     have h8:dSub (nth u k) Q W (d*nth j k)<=1999999999:=by unfold dSub;omega
     rw[g9.o,Mz O.o.borrow];have l:=X.o.set a5.o (A.length+k) (dSub (nth u k) Q W (d*nth j k) % 1000000000);rw[set_mid _ _ _ _ _ (by rw[T.o];exact e3)]at l;exact⟨k+1,_,_,_,by omega,by go_num,by go_num,by go_num,Z.o,λh=>by omega,l,Fa a4.o _ _⟩
    simp[intOf];omega
   have G:k=n:=by omega
   have b6:nth j k=0:=AQ j k (by have:=hd.o.lv;omega);have d9:(Q+d*nth j k) / 1000000000=0:=by
    have h:=O.o;rw[G]at h ⊢;exact h.last hd.o.lv
   have g8:=qh G;clear G;have f1:=qh b6;clear b6;replace d9:=qh d9;go_wp2;go_roundw
   case rel =>
    have e0:(Q:Int)=(Q:Int)+((d*nth j k:Nat):Int):=by rw[f1.o];simp
    have e1:(Q:Int) / 1000000000=((Q+d*nth j k) / 1000000000:Nat):=by rw[f1.o,Nat.mul_zero];omega
    have e2:((nth u k:Nat):Int)+1000000000-(Q:Int) % 1000000000-(W:Int)=((dSub (nth u k) Q W (d*nth j k):Nat):Int):=by
     rw[<-Mz O.o.borrow,<-e0]
    have h8:dSub (nth u k) Q W (d*nth j k)<=1999999999:=by unfold dSub;omega
    rw[e1,e2];have l:=X.o.set a5.o (A.length+k) (dSub (nth u k) Q W (d*nth j k) % 1000000000);rw[set_mid _ _ _ _ _ (by rw[T.o];exact e3)]at l;exact⟨k+1,_,_,_,by omega,by go_num,rfl,by go_num,Z.o,λ_=>d9.o,l,Fa a4.o _ _⟩
   simp[intOf];omega
  have G:k=n+1:=by omega
  have f4:=e8.o G;have I:=O.o;rw[G,f4]at I;have R:=qh I;clear I;clear O e8 G f4
  rcases Nat.eq_zero_or_pos W with h0|h0
  ·have h6:(((W:Nat):Int)==0)=true:=by rw[beq_iff_eq];omega
   have L:d=bval u / bval j/\bval z=bval u % bval j:=by
    have h:=R.o;rw[h0]at h;exact h.fits hd.o b9.o
   have HF:=qh L;clear L;have g6:=qh h0;clear h0;go_wp2;go_ret;exact⟨z,BS (by rw[<-HF.o.1]),by rw[T.o,p.o],R.o.small,HF.o.2,X.o,a4.o⟩
  have h6:(((W:Nat):Int)==0)=false:=by rw[beq_eq_false_iff_ne];omega
  have b0:W=1:=by have:=R.o.borrow;omega
  have I:=R.o;rw[b0]at I;have d6:=qh I;clear I R;have g6:=qh b0;clear b0 h0;obtain⟨wo,rfl⟩:∃wo:World,wo=wr:=⟨_,rfl⟩
  go_wp2_with fail
  go_loopw [10,129] (λc i wr=>∃(k Q:Nat) (S:List Nat),k<=n+1/\i=.int .i64 (k:Int)/\c=.int .u64 (Q:Int)/\AddIn z j S k Q/\
   Own wr B 196 .u64 (.slice (some (Ad g 0)) N cap) (A++S++C)/\w.grownBy wr (some g)) (λ_ i _=>n+1-(intOf i).toNat)
  case atStart=>exact⟨0,0,z,Nat.zero_le _,rfl,rfl,AddIn.start z j d6.o.small,X.o,a4.o⟩
  obtain⟨k2,d7,S,j1,rfl,rfl,U,o,m⟩:=hrel;have s:=U.len;rw[T.o]at s;have a9:(A++S++C).length=N:=by rw[<-hN.o,List.length_append,List.length_append,List.length_append,List.length_append,s,p.o]
  have a8:=qh s;clear s;have a6:=qh a9;clear a9;have a2:=qh U;clear U;have a7:=qh o;clear o;have b7:=qh m;clear m;by_cases b3:k2<n+1
  ·have h7:(d7:Int)<=1:=by have:=a2.o.carry;omega
   have i2:((nth z k2:Nat):Int)<=999999999:=by have:=d6.o.small k2;rw[Ao]at this;omega
   have g2:((nth j k2:Nat):Int)<=999999999:=by have:=hd.o.sv k2;rw[Ao]at this;omega
   have uc:wr.cell? (Ad g (A.length+k2))=some (.int .u64 ((nth z k2:Nat):Int)):=by
    have h:=a7.o.cell a6.o (A.length+k2) (by rw[<-a6.o,List.length_append,List.length_append,a8.o];omega)
    rwa [FZ _ _ _ _ (by rw[a8.o];omega),a2.o.same k2 nlr]at h
   have uf:wr.frozen? (Ad g (A.length+k2))=false:=a7.o.free a6.o _;have J:=a2.o.step hd.o.sv (by rw[T.o];exact b3);have Z:=qh J;clear J;by_cases d8:k2<n
   ·have vc:wr.cell? (Ad bv (ov+k2))=some (.int .u64 ((nth j k2:Nat):Int)):=b7.o.cell (hv.o k2 d8) (by simpa using b8);go_wp2;go_roundw
    case rel =>
     have l:=a7.o.set a6.o (A.length+k2) ((nth z k2+d7+nth j k2) % 1000000000);rw[set_mid _ _ _ _ _ (by rw[a8.o];exact b3)]at l;exact⟨k2+1,_,_,by omega,by go_num,by go_num,Z.o,l,Fa b7.o _ _⟩
    simp[intOf];omega
   have b6:nth j k2=0:=AQ j k2 (by have:=hd.o.lv;omega);have e6:=Z.o;rw[b6,Nat.add_zero]at e6;have f0:=qh e6;clear e6 Z b6 g2;go_wp2;go_roundw
   case rel =>
    have l:=a7.o.set a6.o (A.length+k2) ((nth z k2+d7) % 1000000000);rw[set_mid _ _ _ _ _ (by rw[a8.o];exact b3)]at l;exact⟨k2+1,_,_,by omega,by go_num,by go_num,f0.o,l,Fa b7.o _ _⟩
   simp[intOf];omega
  have G:k2=n+1:=by omega
  have U:=a2.o;rw[G]at U;have L:=U.fits hd.o d6.o b9.o e4.o;have b5:(1:Int)<=(d:Int):=by have:=L.1;omega
  have HF:=qh L;clear L U;have g8:=qh G;clear G;go_wp2;go_ret;exact⟨S,BS (by rw[<-HF.o.2.1];omega),by rw[a8.o,p.o],a2.o.small,HF.o.2.2,a7.o,b7.o⟩
variable{L0:List Nat}{a k m:Nat}
def Hc(xs:List Nat)(a:Nat)(h:a<xs.length):bval (xs.drop a)=nth xs a+BB*bval (xs.drop (a+1)):=by
 rw[List.drop_eq_getElem_cons h];simp only[bval];rw[Db xs a h]
theorem PE{xs:List Nat}(h:Small xs)(k:Nat):Small (xs.drop k):=λi=>by rw[FY];exact h _
def NY(h:L.take k=L0.take k)(c:a<k):nth L a=nth L0 a:=by
 rw[<-Fo L k a c,h,Fo _ _ _ c]
structure DvInv(L0 vs L qs:List Nat)(n a:Nat):Prop where
 len:L.length=L0.length
 ql:qs.length+n=L0.length
 ale:a<=qs.length
 small:Small L
 sq:Small qs
 low:L.take a=L0.take a
 rem:bval (L.drop a)<bval vs
 val:bval (L0.drop a)=bval (qs.drop a)*bval vs+bval (L.drop a)
structure Div0(L0 vs:List Nat)(n:Nat):Prop where
 s0:Small L0
 sv:Small vs
 n1:1<=n
 lv:vs.length=n
 v1:1<=nth vs (n-1)
theorem DvInv.start(h:Div0 L0 c n)(hn:n<=L0.length)(d:bval (L0.drop (L0.length-n))<bval c):
  DvInv L0 c L0 (List.replicate (L0.length-n) 0) n (L0.length-n):=by
 refine⟨rfl,by simp;omega,by simp,h.s0,PF _,rfl,d,?_⟩;have e:(List.replicate (L0.length-n) 0).drop (L0.length-n)=[]:=List.drop_of_length_le (by simp);rw[e];simp[bval]
theorem DvInv.cut(L:List Nat)(n a:Nat):L=L.take a++(L.drop a).take (n+1)++L.drop (a+(n+1)):=by
 rw[List.append_assoc,show L.drop (a+(n+1))=(L.drop a).drop (n+1) by rw[List.drop_drop],List.take_append_drop,List.take_append_drop]
theorem DvInv.seg_len(h:DvInv L0 d L c n (a+1)):((L.drop a).take (n+1)).length=n+1/\(L.take a).length=a:=by
 have:=h.len;have:=h.ql;have:=h.ale;rw[List.length_take,List.length_drop,List.length_take];omega
theorem DvInv.top(h:DvInv L0 c L g n (a+1)):bval (L.drop a)<bval c*BB:=by
 have:=h.len;have:=h.ql;have:=h.ale;rw[Hc L a (by omega)];have i:=h.small a;have d:BB*(bval (L.drop (a+1))+1)<=BB*bval c:=Nat.mul_le_mul_left _ h.rem;rw[Nat.mul_add,Nat.mul_comm BB (bval c)]at d;omega
def DvInv.high{k:List Nat}(i:Div0 L0 g n)(h:DvInv L0 g L k n (a+1)):bval (L.drop a)=bval ((L.drop a).take (n+1))/\bval (L.drop (a+(n+1)))=0:=by
 have d:=EQ ((L.drop a).take (n+1)) ((L.drop a).drop (n+1));rw[List.take_append_drop,List.drop_drop,h.seg_len.1]at d;have m:=h.top;have j:=Cc i.sv;rw[i.lv]at j;have l:bval g*BB<BB ^ (n+1):=by rw[Nat.pow_succ];exact Nat.mul_lt_mul_of_pos_right j AM
 rcases Nat.eq_zero_or_pos (bval (L.drop (a+(n+1)))) with c|c
 ·rw[c,Nat.mul_zero,Nat.add_zero]at d;exact⟨d,c⟩
 have:BB ^ (n+1)*1<=BB ^ (n+1)*bval (L.drop (a+(n+1))):=Nat.mul_le_mul_left _ c;omega
def DvInv.divIn(c:Div0 L0 d n)(h:DvInv L0 d L g n (a+1)):DivIn ((L.drop a).take (n+1)) d n :=
 ⟨EF (PE h.small a) _,c.sv,c.n1,h.seg_len.1,c.lv,c.v1,by rw[<-(h.high c).1];exact h.top⟩
def DvInv.step{k:List Nat}(m:Div0 L0 d n)(h:DvInv L0 d L k n (a+1))(B:c.length=n+1)(D:Small c)
  (z:bval c=bval ((L.drop a).take (n+1)) % bval d) :
  DvInv L0 d (L.take a++c++L.drop (a+(n+1))) (k.set a (bval ((L.drop a).take (n+1)) / bval d)) n a:=by
 have hd:=h.divIn m;have u:=h.high m;have j:=h.seg_len;have E:=h.len;have F:=h.ql;have G:=h.ale;have g:(L.take a++c++L.drop (a+(n+1))).drop a=c++L.drop (a+(n+1)):=by
  rw[List.append_assoc];have:=List.drop_left (l₁:=L.take a) (l₂:=c++L.drop (a+(n+1)))
  rwa [j.2]at this
 have A:bval ((L.take a++c++L.drop (a+(n+1))).drop a)=bval c:=by rw[g,EQ,u.2];simp
 have C:(k.set a (bval ((L.drop a).take (n+1)) / bval d)).drop a=(bval ((L.drop a).take (n+1)) / bval d)::k.drop (a+1):=by
  rw[List.drop_eq_getElem_cons (by simp;omega),List.drop_set,ifp (by omega)];simp
 refine⟨by simp[B];omega,by simp;omega,by simp;omega,?_,Gv h.sq _ _ hd.qlt,?_,?_,?_⟩
 ·intro i;by_cases o:i<a
  ·rw[List.append_assoc,FW _ _ _ (by omega)];exact EF h.small a i
  rw[List.append_assoc,FX _ _ _ (by omega)];by_cases p:i-(L.take a).length<c.length
  ·rw[FW _ _ _ p];exact D _
  rw[FX _ _ _ (by omega)];exact PE h.small _ _
 ·have e:(L.take a++c++L.drop (a+(n+1))).take a=L.take a:=by
   rw[List.append_assoc];have:=List.take_left (l₁:=L.take a) (l₂:=c++L.drop (a+(n+1)))
   rwa [j.2]at this
  rw[e];have:=congrArg (List.take a) h.low;rw[List.take_take,List.take_take,Nat.min_eq_left (by omega)]at this;exact this
 ·rw[A,z];exact Nat.mod_lt _ hd.vpos'
 rw[A,C,Hc L0 a (by omega),h.val];simp only[bval];have o:=Hc L a (by omega);rw[u.1]at o;have p:nth L a=nth L0 a:=NY h.low (by omega);have s:=Nat.div_add_mod (bval ((L.drop a).take (n+1))) (bval d);rw[<-z]at s;generalize bval ((L.drop a).take (n+1)) / bval d=qd at *;generalize bval ((L.drop a).take (n+1))=U at *;rw[Nat.mul_comm (bval d) qd]at s;rw[Nat.add_mul,Nat.mul_add,<-Nat.mul_assoc];omega
def DvInv.done{i:List Nat}(h:DvInv L0 d L i n 0):bval i=bval L0 / bval d/\bval L=bval L0 % bval d:=by
 have g:=h.val;have c:=h.rem;simp only[List.drop_zero]at g c;rw[g,Nat.add_comm,Nat.mul_comm];exact⟨by rw[Nat.add_mul_div_left _ _ (by omega),Nat.div_eq_of_lt c,Nat.zero_add],by rw[Nat.add_mul_mod_self_left,Nat.mod_eq_of_lt c]⟩
structure DnInv(r0 L:List Nat)(k a lf:Nat):Prop where
 len:L.length=r0.length
 ale:a<=r0.length
 small:Small L
 left:lf<k
 low:L.take a=r0.take a
 val:bval (r0.drop a)=k*bval (L.drop a)+lf
theorem DnInv.start(d:1<=k)(g:Small c):DnInv c c k c.length 0 :=
 ⟨rfl,nlr,g,d,rfl,by rw[List.drop_length];simp[bval]⟩
def DnInv.bound{c:Nat}(h:DnInv d L k (a+1) c)(j:Small d):c*1000000000+nth d a<k*1000000000:=by
 have g:=j a;have i:=h.left;rw[Ao]at g;have:(c+1)*1000000000<=k*1000000000:=Nat.mul_le_mul_right _ i;omega
def DnInv.step{d:Nat}(h:DnInv c L k (a+1) d)(g:1<=k)(l:Small c):
  DnInv c (L.set a ((d*1000000000+nth c a) / k)) k a ((d*1000000000+nth c a) % k):=by
 have hb:=h.bound l;have i:=h.len;have o:=h.ale;have m:(d*1000000000+nth c a) / k<BB:=by
  rw[Ao];exact Nat.div_lt_of_lt_mul hb
 refine⟨by simp;exact i,by omega,Gv h.small _ _ m,Nat.mod_lt _ g,?_,?_⟩
 ·rw[take_set];have:=congrArg (List.take a) h.low;rw[List.take_take,List.take_take,Nat.min_eq_left (by omega)]at this;exact this
 have j:(L.set a ((d*1000000000+nth c a) / k)).drop a=((d*1000000000+nth c a) / k)::L.drop (a+1):=by
  rw[List.drop_eq_getElem_cons (by simp;omega),List.drop_set,ifp (by omega)];simp
 rw[j,Hc c a (by omega),h.val];simp only[bval];have p:=Nat.div_add_mod (d*1000000000+nth c a) k;generalize (d*1000000000+nth c a) / k=qd at *;rw[Nat.mul_add,Nat.mul_add,Nat.mul_left_comm BB k];have:BB*d=d*1000000000:=by rw[Ao,Nat.mul_comm]
 omega
def DnInv.done{g:Nat}(h:DnInv d L k 0 g):bval L=bval d / k:=by
 have c:=h.val;simp only[List.drop_zero]at c;rw[c,Nat.add_comm,Nat.add_mul_div_left _ _ (Nat.lt_of_le_of_lt nzl h.left),Nat.div_eq_of_lt h.left,Nat.zero_add]
theorem TN{d:Nat}(hd:d≠0)(i:k=1000000000 / (nth (toB d) ((toB d).length-1)+1)):
  1<=k/\k<BB/\(toB (d*k)).length=(toB d).length:=by
 have j:=Ek hd;have p:=AX d ((toB d).length-1);have s:=IN hd;have l:=He (xs:=toB d) rfl j;rw[AY]at l;have u:=GA (AX d) ((toB d).length-1) (by omega);generalize hx:nth (toB d) ((toB d).length-1)=x at *;have c:1<=k:=by rw[i,Nat.le_div_iff_mul_le (by omega)];rw[Ao]at p;omega
 have h:k*(x+1)<=BB:=by rw[i,Ao];exact Nat.div_mul_le_self _ _
 have g:k<BB:=by
  have:k*2<=k*(x+1):=Nat.mul_le_mul_left _ (by omega);omega
 refine⟨c,g,?_⟩
 apply Nat.le_antisymm
 ·apply GE
  have m:d<BB ^ ((toB d).length-1)*(x+1):=by rw[Nat.mul_add];omega
  have z:d*k<BB ^ ((toB d).length-1)*(x+1)*k:=Nat.mul_lt_mul_of_pos_right m c;have o:BB ^ ((toB d).length-1)*((x+1)*k)<=BB ^ ((toB d).length-1)*BB:=Nat.mul_le_mul_left _ (by rw[Nat.mul_comm];exact h);rw[<-Nat.mul_assoc,<-Oy j]at o;omega
 exact Ej (by
             have:d*1<=d*k:=Nat.mul_le_mul_left _ c;omega)
def VG(g:k<BB)(c:1<=k):(toB m).length<=(toB (m*k)).length/\(toB (m*k)).length<=(toB m).length+1:=by
 refine⟨Ej (by
              have:m*1<=m*k:=Nat.mul_le_mul_left _ c;omega),GE ?_⟩
 have d:=Cc<|AX m;rw[AY]at d;rw[Nat.pow_succ];exact Nat.mul_lt_mul_of_lt_of_le d (by omega) AM
theorem Mk(xs:List Nat):bval (xs++[0])=bval xs:=by rw[ER];simp
def RU(xs:List Nat)(j:Nat)(h:Small xs):bval (xs.drop j)=bval xs / BB ^ j:=by
 by_cases c:j<=xs.length
 ·have:=EQ (xs.take j) (xs.drop j);rw[List.take_append_drop,List.length_take,Nat.min_eq_left c]at this;rw[this,Nat.add_mul_div_left _ _ (Nat.pow_pos AM),Nat.div_eq_of_lt (GA h j c),Nat.zero_add]
 rw[List.drop_of_length_le (by omega),Nat.div_eq_of_lt]
 ·rfl
 exact Nat.lt_of_lt_of_le (Cc h) (Nat.pow_le_pow_right AM (by omega))
def TT{d:Nat}(hd:d≠0)(c:1<=k)(l:(toB d).length<=(toB m).length)(o:Small L0)(p:bval L0=m*k)(j:L0.length=(toB m).length+1):
  bval (L0.drop (L0.length-(toB d).length))<d*k:=by
 rw[RU _ _ o,p,j,Nat.div_lt_iff_lt_mul (Nat.pow_pos AM)];have h:=Cc<|AX m;rw[AY]at h;have i:=Ym hd;have u:=Ek hd;have e:BB ^ (toB m).length=BB ^ ((toB d).length-1)*BB ^ ((toB m).length+1-(toB d).length):=by rw[<-Nat.pow_add];congr 1;omega
 have s:BB ^ ((toB d).length-1)*BB ^ ((toB m).length+1-(toB d).length)<=d*BB ^ ((toB m).length+1-(toB d).length):=Nat.mul_le_mul_right _ i;have g:m*k<d*BB ^ ((toB m).length+1-(toB d).length)*k:=Nat.mul_lt_mul_of_pos_right (by omega) c;rw[Nat.mul_right_comm]at g;exact g
variable{k:IntKind}
def DivEnd(m d:Nat)(w:World)(e:Ending)(w':World):Prop :=
 ∃vq vr,e=.returned (.tuple #[vq,vr])/\Sl w' .u64 vq (toB (m / d))/\Sl w' .u64 vr (toB (m % d))/\Below w.heap.size w w'
def Own.keptBy{w':World}{g n cap:Nat}{row:Option Nat}(h:Own w B e k (.slice (some (Ad g 0)) n cap) L)(d:w.grownBy w' row)(c:some g≠row):Own w' B e k (.slice (some (Ad g 0)) n cap) L :=
 World.ownsRow.kept h d (.inr (by simpa [Value.ownBlock] using c))
theorem Own.some{v:Value}(h:Own w B e k v L)(hn:1<=L.length):∃g cap,v=.slice (.some (Ad g 0)) L.length cap/\B<=g/\g<w.heap.size/\L.length<=cap/\cap<=maxLen:=by
 rcases h.2 with⟨_,m⟩|⟨g,cap,cur,l,c,j,d,i,_⟩
 ·omega
 exact⟨g,cap,l,c,(Array.getElem?_eq_some_iff.1 j).1,d,i⟩
def Tg(i j:Value)(m d:Nat)(w:World)(h:Sl w .u64 i (toB m))(l:Sl w .u64 j (toB d))(g:m<d):
  Calls prog 222 #[i,j] w (DivEnd m d w):=by
 have c:=FI i j m d w h l;unfold CmpEnd at c;rw[Cq g]at c;replace c:=qh c;replace h:=qh h;clear l;replace g:=qh g
 go_enter func222,ntmps222
 go_wp2_with fail
 refine nxa c.o λo k=>?_;go_wp2;go_ret2;refine⟨_,_,rfl,?_,?_,k.o⟩
 ·rw[Nat.div_eq_of_lt g.o];exact Sl.nil _ _
 rw[Nat.mod_eq_of_lt g.o];exact h.o.below k.o nlr
set_option maxRecDepth 100000 in
theorem Tf(vx vy:Value)(m d:Nat)(w:World)(hx:Sl w .u64 vx (toB m))(hy:Sl w .u64 vy (toB d))(hd:d≠0)(r2:d<=m)(lx:(toB m).length<=50000):
  Calls prog 222 #[vx,vy] w (DivEnd m d w):=by
 have d6:=FI vx vy m d w hx hy;unfold CmpEnd at d6;have q8:∃q:Int,cmpN m d=q/\0<=q:=by
  rcases Nat.lt_or_ge d m with h|h
  ·exact⟨1,CV h,by omega⟩
  exact⟨0,DV (by omega),by omega⟩
 obtain⟨q0,hq,w4⟩:=q8;rw[hq]at d6;clear hq;have g4:=TN hd rfl;obtain⟨k,hk⟩:∃k,k=1000000000 / (nth (toB d) ((toB d).length-1)+1):=⟨_,rfl⟩;rw[<-hk]at g4;obtain⟨b0,W,b7⟩:=g4;have d8:=Ek hd;have i6:(toB d).length<=(toB m).length:=Ej r2;have e3:=VG (m:=m) W b0;have g9:=AX d ((toB d).length-1);rw[Ao]at g9;obtain⟨ax,cx,rfl⟩:=hx.shape;replace hx:=qh hx;have HY:=qh hy;obtain⟨ay,cy,p7,oy,rfl,q7,s4,k7,k0,a1⟩:=hy.open;obtain rfl:=q7 d8;have k4:=k0 d8;have j6:=a1 ((toB d).length-1) (by omega);have g6:(((toB d).length:Int)-1)<((toB d).length:Int):=by omega
 have l5:0<=(((toB d).length:Int)-1):=by omega
 unfold maxLen at k7;replace d6:=qh d6;replace hk:=qh hk;replace b7:=qh b7;replace W:=qh W;replace hd:=qh hd;clear k0 a1 hy
 go_enter func222,ntmps222
 go_wp2_with fail
 refine d6.o.mono ?_;rintro e w1⟨rfl,T⟩;have j7:=(T.cell (p:=(Ad p7 (oy+((toB d).length-1)))) k4).trans j6;replace T:=qh T;have m7:=T.o.size;clear j6
 go_wp2_with fail
 have ek:(1000000000:Int) / (((nth (toB d) ((toB d).length-1):Nat):Int)+1)=(k:Int):=by rw[hk.o];simp
 rw[ek];clear ek;refine(Pq _ m k w1 W.o (hx.o.below T.o nlr) (by omega)).mono ?_;rintro e w2⟨vu,rfl,Q,d3⟩;have HU:=qh Q;clear Q;replace d3:=qh d3;have w9:=d3.o.size
 go_wp2_with fail
 refine(Pq _ d k w2 W.o ((HY.o.below T.o nlr).below d3.o nlr) (by omega)).mono ?_;rintro e w3⟨vv,rfl,N,d4⟩;replace d4:=qh d4;have x0:=d4.o.size;have i8:=(HU.o.kept d4.o nlr).mono m7;obtain⟨gv,cv,rfl,s9,t7,g3,k6⟩:=N.some (by rw[b7.o];exact d8);have a6:=N.mono (show w.heap.size<=w2.heap.size by omega);rw[b7.o]at g3;rw[b7.o];obtain⟨gu,cu,r7,s7,s8,s3,k5⟩:=HU.o.some (by omega);obtain rfl:=r7;replace a6:=qh a6;clear N;replace i8:=qh i8;have o8:Hd (gu≠gv):=qh (by omega);have n7:=qh<|T.o.trans ((d3.o.mono m7).trans (d4.o.mono (by omega)));obtain⟨i0,i9,m8,j0,m9⟩:=info_parts FR;obtain⟨vs,O⟩:=exq<|toB (d*k);rw[<-O]at a6;replace O:=qh O;obtain⟨n,hn⟩:∃n,n=(toB d).length:=⟨_,rfl⟩;rw[<-hn]at d8 i6 g9 g6 l5 g3;have HN:=qh hn;have f2:Hd (vs.length=n):=qh (by rw[O.o,b7.o];exact hn.symm);rw[<-hn];clear hn j7 g6 l5;obtain⟨b8,b1⟩:∃l,l=(toB m).length:=⟨_,rfl⟩;rw[<-b1]at lx i6 e3;rw[<-b1];replace b1:=qh b1;unfold maxLen at k6 k5
 go_wp2_with fail
 go_loopw [8] (λv wr=>∃(g o:Nat) (L:List Nat),v=.slice (some (Ad g 0)) L.length o/\Own wr w.heap.size 196 .u64 (.slice (some (Ad g 0)) L.length o) L/\g≠gv/\Small L/\bval L=m*k/\b8<=L.length/\L.length<=b8+1/\
   Own wr w.heap.size 196 .u64 (.slice (some (Ad gv 0)) n cv) vs/\Below w.heap.size w wr) (λv _=>b8+1-lenV v)
 case atStart =>
  refine⟨gu,cu,toB (m*k),rfl,i8.o,o8.o,AX _,AY _,e3.1,e3.2,?_,n7.o⟩;have:=a6.o
  rwa [f2.o]at this
 obtain⟨g,o,L,rfl,Q,b2,b4,U,v9,w0,N,P⟩:=hrel;have HO:=qh Q;clear Q;replace b2:=qh b2;replace b4:=qh b4;replace U:=qh U;have d2:=qh N;clear N;have b9:=qh P;clear P;by_cases r3:L.length<=b8
 ·have e9:=b9.o.size;have f7:wr.ownsRow w.heap.size 196 1 (.slice (some (Ad g 0)) L.length o) L.length (vals .u64 L):=HO.o;replace f7:=qh f7
  rcases Nat.lt_or_ge o (L.length+1) with d5|d5
  ·go_wp2_with (at_builtin;refine wpList_append_grows _ rfl (.tmp 40) (.tmp 41) 210 rfl 196 i0 (.int .u64 0) 1 8 underlying210 i9 m8 j0 m9 rfl (by decide) (some (Ad g 0)) L.length o (vals .u64 L) rfl (by intro h;cases h) (by rw[Qz];omega) (λb hb=>by cases hb;exact World.ownsRow.cells (World.ownsRow.alloc f7.o _) rfl) (Ad wr.heap.size 0) 1 1 [.int .u64 0] rfl rfl (cell_one_new _ _ _) (one_cell _ _) d5 (by unfold maxLen;omega) (by omega) ?_;intro v5 w5 C u)
   have b3:Own w5 (wr.heap.size+1) 196 .u64 v5 (L++[0]):=by
    unfold Own;rw[<-Ls,List.length_append];have e:(wr.alloc (.cells #[.int .u64 0] 196)).heap.size=wr.heap.size+1:=by simp
    rw[e]at C;exact C
   obtain⟨g5,j5,rfl,s5,s6,_,_⟩:=b3.some (by simp);have a9:Below wr.heap.size wr w5:=((Below.refl _ wr).alloc nlr _).grown u (by simp) (by simp);have e8:=d2.o.kept a9 nlr;have v6:=d2.o.base.2;have H5:=qh (b3.mono (show w.heap.size<=wr.heap.size+1 by omega));clear b3 C u;have h7:=qh e8;clear e8;have h0:=qh a9;clear a9;have j3:Hd (g5≠gv):=qh (by omega);go_wp2;go_roundw
   case rel=>exact⟨g5,j5,L++[0],rfl,H5.o,j3.o,IC b4.o AM,by rw[Mk];exact U.o,by simp;omega,by simp;omega,h7.o,b9.o.trans (h0.o.mono e9)⟩
   simp[Nj];omega
  go_wp2_with (at_builtin;refine wpList_append_fits _ rfl (.tmp 40) (.tmp 41) 210 rfl w.heap.size 196 i0 1 underlying210 i9 j0 g L.length o (vals .u64 L) rfl (World.ownsRow.alloc f7.o _) (Ad wr.heap.size 0) 1 1 [.int .u64 0] rfl rfl (cell_one_new _ _ _) (one_cell _ _) d5 ?_;intro w5 C u)
  have b3:Own w5 w.heap.size 196 .u64 (.slice (some (Ad g 0)) (L.length+1) o) (L++[0]):=by
   unfold Own;rw[<-Ls,List.length_append];exact C
  have i4:=HO.o.base.1;have a9:Below w.heap.size w w5:=(b9.o.alloc e9 _).grown u (by simp;omega) (λq hq=>by cases hq;exact i4);have e8:Own w5 w.heap.size 196 .u64 (.slice (some (Ad gv 0)) n cv) vs :=
   Own.keptBy (d2.o.kept ((Below.refl wr.heap.size wr).alloc nlr (.cells #[.int .u64 0] 196)) nlr) u (by have:=b2.o;simp;omega)
  have H5:=qh b3;clear b3 C u;have h7:=qh e8;clear e8;have h0:=qh a9;clear a9;go_wp2;go_roundw
  case rel=>exact⟨g,o,L++[0],by simp,by rw[List.length_append];exact H5.o,b2.o,IC b4.o AM,by rw[Mk];exact U.o,by simp;omega,by simp;omega,h7.o,h0.o⟩
  simp[Nj];omega
 have h8:L.length=b8+1:=by omega
 have e9:=b9.o.size;have l0:=HO.o.base;have l1:=d2.o.base;obtain⟨s,f5⟩:=exq<|L.length-n;obtain⟨wm,i5,a7,l3⟩:=run_make_full wr w.heap.size 210 196 i0 (.int .u64 0) 1 underlying210 i9 m8 j0 .i64 .i64 (L.length-n) (by rw[m9];omega) (by unfold maxLen;omega) e9;rw[show ((L.length-n:Nat):Int)=(L.length:Int)-(n:Int) by omega,<-f5]at i5;rw[<-f5]at a7;obtain⟨gq,k9⟩:=exq<|wr.heap.size;rw[<-k9]at i5 a7;have f3:Below wr.heap.size wr wm:=blr.grown l3 nlr (by simp);have h9:Own wm w.heap.size 196 .u64 (.slice (some (Ad gq 0)) s s) (List.replicate s 0):=by
  unfold Own;rw[Lq,List.length_replicate];have:=a7;rw[Nat.mul_one,show (Value.int .u64 0).cells=#[Value.int .u64 0] from rfl,toList_madeCells_one]at this;exact this
 have d7:Div0 L vs n:=⟨b4.o,by rw[O.o];exact AX _,d8,f2.o,by
  have h:=IN (n:=d*k) (by have:=hd.o;exact Nat.mul_ne_zero this (by omega));rw[<-O.o,f2.o]at h;omega⟩
 have i3:bval (L.drop (L.length-n))<bval vs:=by
  have h:=TT (m:=m) hd.o b0 (L0:=L) (by rw[<-HN.o,<-b1.o];exact i6) b4.o U.o (by rw[<-b1.o];exact h8);rw[<-HN.o]at h;rw[O.o,AY];exact h
 have i7:DvInv L vs L (List.replicate s 0) n s:=by
  have h:=DvInv.start d7 (by omega) i3
  rwa [<-f5]at h
 have v0:s+n=b8+1:=by omega
 replace i7:=qh i7;clear i3;replace d7:=qh d7;replace h9:=qh h9;clear a7;have o9:=qh<|HO.o.kept f3 nlr;have p6:=qh<|d2.o.kept f3 nlr;have n9:=qh<|b9.o.trans (f3.mono e9);have f0:Hd (gq≠g/\gq≠gv):=qh ⟨by omega,by omega⟩;have v4:=qh h8;have i2:L.length<=o/\o<=maxLen:=by
  obtain⟨g',r9,h1,_,_,h2,h3⟩:=HO.o.some (by omega);simp only[Value.slice.injEq,true_and]at h1;obtain⟨_,rfl⟩:=h1;exact⟨h2,h3⟩
 obtain⟨n5,f4⟩:=i2;unfold maxLen at f4;clear f3 l3 f5 k9 h8 l0 l1
 go_wp2_with fail
 clear i5
 go_loopw [50] (λi wq=>∃(j:Nat) (Lc qs:List Nat),j<=s/\i=.int .i64 (j:Int)/\DvInv L vs Lc qs n (s-j)/\Own wq w.heap.size 196 .u64 (.slice (some (Ad g 0)) L.length o) Lc/\
   Own wq w.heap.size 196 .u64 (.slice (some (Ad gv 0)) n cv) vs/\Own wq w.heap.size 196 .u64 (.slice (some (Ad gq 0)) s s) qs/\Below w.heap.size w wq) (λi _=>s-(intOf i).toNat)
 case atStart=>exact⟨0,L,_,Nat.zero_le _,rfl,i7.o,o9.o,p6.o,h9.o,n9.o⟩
 obtain⟨j,Lc,qs,hj,rfl,z,Q,N,e1,P⟩:=hrel;have h5:=qh z;clear z;have f1:=qh Q;clear Q;have j4:=qh N;clear N;have h6:=qh e1;clear e1;have h4:=qh P;clear P;by_cases r3:j<s
 ·obtain⟨a,ha⟩:=exq<|s-1-j;have z:=h5.o;rw[show s-j=a+1 by omega]at z;have g8:=z.seg_len;have G:=z.len;have r5:=z.ql;have hcut:=DvInv.cut Lc n a;have a2:=SY w.heap.size g L.length o (o-a) gv 0 cv n (Lc.take a) ((Lc.drop a).take (n+1)) (Lc.drop (a+(n+1))) vs wr (by rw[<-hcut];exact G) (by rw[<-hcut];exact f1.o) (z.divIn d7.o) (by omega) b2.o.symm
   (λi hi=>by rw[Nat.zero_add];exact j4.o.cell f2.o i hi)
  rw[g8.2]at a2;replace a2:=qh a2;clear hcut;have F:=qh z;clear z g8 G r5;subst ha;have l4:s-1-j<s:=by omega
  go_wp2_with fail
  rw[show s-1-j+n+1-(s-1-j)=n+1 by omega];refine a2.o.mono ?_;rintro e w6⟨x1,rfl,l9,m3,m2,g7,a5⟩;have e7:=F.o.step d7.o (by rw[l9];exact F.o.seg_len.1) m3 m2;have f8:=h6.o.keptBy a5 (by have:=f0.o.1;simp;omega);have m4:=j4.o.keptBy a5 (by have:=b2.o;simp;omega);have i4:=f1.o.base.1;have l2:=h6.o.base.1;have j8:Below w.heap.size w w6:=h4.o.grown a5 (h4.o.size) (λq hq=>by cases hq;exact i4);have B:qs.length=s:=by have h1:=F.o.ql;omega
  have cq:=f8.cell B (s-1-j) l4;have fq:=f8.free B (s-1-j);have l6:=f8.set B (s-1-j) (bval ((Lc.drop (s-1-j)).take (n+1)) / bval vs);have d9:w6.grownBy (w6.setCell (Ad gq (s-1-j)) (.int .u64 ((bval ((Lc.drop (s-1-j)).take (n+1)) / bval vs:Nat):Int))) (some gq):=Fa (JK _ _) _ _;have l8:=g7.keptBy d9 (by have:=f0.o.1;simp;omega);have m5:=m4.keptBy d9 (by have:=f0.o.2;simp;omega);have j9:=j8.setCell (p:=(Ad gq (s-1-j))) l2 (.int .u64 ((bval ((Lc.drop (s-1-j)).take (n+1)) / bval vs:Nat):Int));have o4:=qh e7;have o7:=qh l8;have p0:=qh m5;have o3:=qh l6;have n6:=qh j9;clear e7 l8 m5 l6 j9 d9 f8 m4 j8 g7 a5 m2 m3 l9 B;go_wp2;go_roundw
  case rel=>exact⟨j+1,_,_,by omega,by go_num,by rw[show s-(j+1)=s-1-j by omega];exact o4.o,o7.o,p0.o,o3.o,n6.o⟩
  simp[intOf];omega
 have e0:j=s:=by omega
 have z:=h5.o;rw[e0,Nat.sub_self]at z;have a4:=z.done;have G:=z.len;have b6:=EJ (some (Ad g 0)) o Lc wr (by rw[G];exact f1.o.sl);rw[G]at b6;have o6:=qh b6;clear b6;have F:=qh z;clear z;replace a4:=qh a4;have d0:=qh G;clear G h5 e0
 go_wp2_with fail
 refine o6.o.mono ?_;rintro e w6⟨D,f9,rfl,rfl⟩;replace f9:=qh f9;have r6:D<=L.length:=by have:=f9.o.1;rw[d0.o]at this;exact this
 obtain⟨X,e4⟩:=exq<|Lc.take D;have R:X.length=D:=by rw[e4,List.length_take,d0.o];omega
 have e5:bval X=(m % d)*k:=by
  rw[e4,Qh f9.o.2.1,a4.o.2,U.o,O.o,AY,Nat.mul_mod_mul_right]
 have S:Small X:=by rw[e4];exact EF F.o.small _
 have e2:Own wr w.heap.size 196 .u64 (.slice (some (Ad g 0)) D o) X:=by
  rw[e4];exact f1.o.take (by rw[d0.o];exact r6)
 have E:=DnInv.start b0 S;rw[R]at E;replace E:=qh E;replace R:=qh R;replace e5:=qh e5;replace S:=qh S;have o2:=qh e2;clear e2 e4;have v8:(k:Int)<=999999999:=by have:=W.o;rw[Ao]at this;omega
 obtain⟨wo,rfl⟩:∃wo:World,wo=wr:=⟨_,rfl⟩
 go_wp2_with fail
 go_loopw [12,75] (λlf i wq=>∃(H I:Nat) (Lr:List Nat),H<=D/\i=.int .i64 (H:Int)/\lf=.int .u64 (I:Int)/\DnInv X Lr k (D-H) I/\Own wq w.heap.size 196 .u64 (.slice (some (Ad g 0)) D o) Lr/\
   Own wq w.heap.size 196 .u64 (.slice (some (Ad gq 0)) s s) qs/\Below w.heap.size w wq) (λ_ i _=>D-(intOf i).toNat)
 case atStart=>exact⟨0,0,X,Nat.zero_le _,rfl,rfl,E.o,o2.o,h6.o,h4.o⟩
 obtain⟨H,I,Lr,v7,rfl,rfl,A,e2,e1,P⟩:=hrel;have g1:=qh A;clear A;have J:=qh e2;clear e2;have d1:=qh e1;clear e1;have g0:=qh P;clear P;by_cases v2:H<D
 ·have A:=g1.o;rw[show D-H=D-1-H+1 by omega]at A;have c:=A.len;rw[R.o]at c;have t9:(I:Int)<=999999999:=by have h1:=A.left;have h2:=W.o;rw[Ao]at h2;omega
  have v3:((nth X (D-1-H):Nat):Int)<=999999999:=by have:=S.o<|D-1-H;rw[Ao]at this;omega
  have q9:=J.o.cell c (D-1-H) (by omega);rw[NY A.low (by omega)]at q9;have i3:=J.o.free c (D-1-H);have t8:(1:Int)<=(k:Int):=by omega
  have e6:=A.step b0 S.o;replace e6:=qh e6;clear A;have g2:=qh c;clear c
  go_wp2_with fail
  go_region
  go_wp2;go_roundw
  case rel =>
   have p8:((I:Int)*1000000000+((nth X (D-1-H):Nat):Int)) / (k:Int)=(((I*1000000000+nth X (D-1-H)) / k:Nat):Int):=by simp
   have p9:((I:Int)*1000000000+((nth X (D-1-H):Nat):Int)) % (k:Int)=(((I*1000000000+nth X (D-1-H)) % k:Nat):Int):=by simp
   rw[p8,p9];have l7:=(J.o.set g2.o (D-1-H) ((I*1000000000+nth X (D-1-H)) / k)).kept (Below.drew blr) nlr;have r4:=(d1.o.keptBy (Fa (g:=g) (JK wr _) (D-1-H) (.int .u64 (((I*1000000000+nth X (D-1-H)) / k:Nat):Int))) (by have:=f0.o.1;simp;omega)).kept (Below.drew blr) nlr;exact⟨H+1,_,_,by omega,by go_num,rfl,by rw[show D-(H+1)=D-1-H by omega];exact e6.o,l7,r4,(g0.o.setCell J.o.base.1 _).drew⟩
  simp[intOf];omega
 have e0:H=D:=by omega
 have A:=g1.o;rw[e0,Nat.sub_self]at A;have K:=A.done;rw[e5.o,Nat.mul_div_cancel _ b0]at K;have c:=A.len;rw[R.o]at c;have B:qs.length=s:=by have h1:=F.o.ql;omega
 have b5:=EJ (some (Ad gq 0)) s qs wr (by rw[B];exact d1.o.sl);rw[B]at b5;have a8:=EJ (some (Ad g 0)) o Lr wr (by rw[c];exact J.o.sl);rw[c]at a8;have o5:=qh b5;clear b5;replace a8:=qh a8;have g2:=qh c;clear c;have r8:=qh B;clear B;replace K:=qh K;have j1:=qh A;clear A e0
 go_wp2_with fail
 refine o5.o.mono ?_;rintro e w7⟨tq,b5,rfl,rfl⟩;have Y:=qh b5;clear b5
 go_wp2_with fail
 refine a8.o.mono ?_;rintro e w8⟨tr,b6,rfl,rfl⟩;have Z:=qh b6;clear b6;go_wp2;go_ret2;refine⟨_,_,rfl,?_,?_,g0.o⟩
 ·have e:toB (m / d)=qs.take tq:=by
   rw[Fx F.o.sq Y.o.1 Y.o.2.1 Y.o.2.2,a4.o.1,U.o,O.o,AY,Nat.mul_div_mul_right _ _ b0]
  rw[e];exact d1.o.sl.take Y.o.1
 have e:toB (m % d)=Lr.take tr:=by
  rw[Fx j1.o.small Z.o.1 Z.o.2.1 Z.o.2.2,K.o]
 rw[e];exact J.o.sl.take Z.o.1
def MI(c g:Value)(m d:Nat)(w:World)(i:Sl w .u64 c (toB m))(j:Sl w .u64 g (toB d))(hd:d≠0)(k:(toB m).length<=50000):
  Calls prog 222 #[c,g] w (DivEnd m d w):=by
 rcases Nat.lt_or_ge m d with h|h
 ·exact Tg c g m d w i j h
 exact Tf c g m d w i j hd h k
variable{t:ByteArray}
def TripEnd(r:ByteArray × ByteArray × Nat)(w:World)(e:Ending)(w':World):Prop:=e=.returned (.tuple #[.string r.1,.string r.2.1,.int .i64 (r.2.2:Int)])/\Below w.heap.size w w'
def divF(s t:ByteArray):ByteArray × ByteArray × Nat:=if vld s&&vld t then (if val t=0 then (str [],str [],4) else (str (dec (val s / val t)),str (dec (val s % val t)),0)) else (str [],str [],1)
def gcdF(s t:ByteArray):ByteArray × Nat:=if vld s&&vld t then (str (dec (Nat.gcd (val s) (val t))),0) else (str [],1)
def Na(h:vld t=true)(c:val t=0):t.toList=[48]:=by
 rw[Lib.toList_data];exact Vr h (show As [48]=true by decide) (by rw[show num [48]=0 from rfl];exact c)
def Ic(c:¬val t=0):¬t.toList=[48]:=by
 rw[Lib.toList_data];intro e;apply c;unfold val bts;rw[e];rfl
def Tc(s t:ByteArray)(w:World)(S:s.size<=maxLen)(T:t.size<=maxLen)(m:Tab w):
  Calls prog 229 #[.string s,.string t] w (TripEnd (divF s t) w):=by
 have I:=qh m;clear m;have c1:=Co s w S;have c2:=Co t w T;clear S T;cases d:vld s with
 |false =>
  have c:divF s t=(str [],str [],1):=by unfold divF;rw[d];rfl
  rw[c];rw[d]at c1;clear c d c2 I;have D:=qh c1;clear c1
  go_enter func229,ntmps229
  go_wp2_with fail
  refine D.o.mono ?_;rintro e E⟨rfl,rfl⟩;go_wp2
  go_ret3
  exact⟨rfl,blr⟩
 |true =>
  cases g:vld t with
  |false =>
   have c:divF s t=(str [],str [],1):=by unfold divF;rw[d,g];rfl
   rw[c];rw[d]at c1;rw[g]at c2;clear c d g I;have D:=qh c1;clear c1;have H:=qh c2;clear c2
   go_enter func229,ntmps229
   go_wp2_with fail
   refine D.o.mono ?_;rintro e E⟨rfl,rfl⟩
   go_wp2_with fail
   refine H.o.mono ?_;rintro e E⟨rfl,rfl⟩;go_wp2
   go_ret3
   exact⟨rfl,blr⟩
  |true =>
   rw[d]at c1;rw[g]at c2;have D:=qh c1;clear c1;have H:=qh c2;clear c2;have lm:=CR d;have ln:=CR g;have Q:=Cw s w d;have N:=qh Q;clear Q;have R:=λw=>Cw t w g;have O:=qh R;clear R;replace d:=qh d;replace g:=qh g;by_cases o:val t=0
   ·have c:divF s t=(str [],str [],4):=by unfold divF;rw[d.o,g.o,ifp o];rfl
    rw[c];clear c;have l:=Na g.o o;have G:(t.toList==[48])=true:=by rw[l];rfl
    clear o N O lm ln
    go_enter func229,ntmps229
    go_wp2_with fail
    refine D.o.mono ?_;rintro e E⟨rfl,rfl⟩
    go_wp2_with fail
    refine H.o.mono ?_;rintro e E⟨rfl,rfl⟩
    go_wp2_with fail
    go_ret3
    exact⟨rfl,blr⟩
   have c:divF s t=(str (dec (val s / val t)),str (dec (val s % val t)),0):=by unfold divF;rw[d.o,g.o,ifn o];rfl
   rw[c];clear c;have l:=Ic o;have G:(t.toList==[48])=false:=by rw[beq_eq_false_iff_ne];exact l
   replace o:=qh o
   go_enter func229,ntmps229
   go_wp2_with fail
   refine D.o.mono ?_;rintro e E⟨rfl,rfl⟩
   go_wp2_with fail
   refine H.o.mono ?_;rintro e E⟨rfl,rfl⟩
   go_wp2_with fail
   clear l G;refine N.o.mono ?_;rintro e w1⟨v1,rfl,z,j⟩;replace z:=qh z;replace j:=qh j;have L:=j.o.size
   go_wp2_with fail
   refine(O.o w1).mono ?_;rintro e w2⟨v2,rfl,A,h⟩;replace A:=qh A;replace h:=qh h;have Y:=h.o.size;have J:=qh<|z.o.sl.below h.o nlr;have u:=MI v1 v2 (val s) (val t) w2 J.o A.o.sl o.o (by omega);replace u:=qh u
   go_wp2_with fail
   refine u.o.mono ?_;rintro e w3⟨vq,vr,rfl,K,c,k⟩;replace K:=qh K;have U:=qh c;clear c;replace k:=qh k;have Z:=k.o.size;have P:=qh<|j.o.trans ((h.o.mono L).trans (k.o.mono (by omega)));have W:=Ej<|Nat.div_le_self (val s) (val t);have X:=Ej<|Nat.mod_le (val s) (val t);have B:=GB vq (val s / val t) w3 K.o (by omega) (I.o.below P.o nlr);replace B:=qh B
   go_wp2_with fail
   refine B.o.mono ?_;rintro e w4⟨rfl,i⟩;replace i:=qh i;have a1:=i.o.size;have F:=qh<|P.o.trans (i.o.mono (by omega));have C:=GB vr (val s % val t) w4 (U.o.below i.o nlr) (by omega) (I.o.below F.o nlr);replace C:=qh C
   go_wp2_with fail
   refine C.o.mono ?_;rintro e w5⟨rfl,p⟩;replace p:=qh p
   go_wp2_with fail
   go_ret3
   exact⟨rfl,F.o.trans (p.o.mono (by omega))⟩
def TZ(s t:ByteArray)(w:World)(T:s.size<=maxLen)(U:t.size<=maxLen)(m:Tab w):
  Calls prog 197 #[.string s,.string t] w (PairEnd (gcdF s t) w):=by
 have O:=qh m;clear m;have c1:=Co s w T;have c2:=Co t w U;clear T U;cases c:vld s with
 |false =>
  have h:gcdF s t=(str [],1):=by unfold gcdF;rw[c];rfl
  rw[h];rw[c]at c1;clear h c c2 O;have E:=qh c1;clear c1
  go_enter func197,ntmps197
  go_wp2_with fail
  refine E.o.mono ?_;rintro e K⟨rfl,rfl⟩;go_wp2;go_ret2;exact⟨rfl,blr⟩
 |true =>
  cases j:vld t with
  |false =>
   have h:gcdF s t=(str [],1):=by unfold gcdF;rw[c,j];rfl
   rw[h];rw[c]at c1;rw[j]at c2;clear h c j O;have E:=qh c1;clear c1;have L:=qh c2;clear c2
   go_enter func197,ntmps197
   go_wp2_with fail
   refine E.o.mono ?_;rintro e K⟨rfl,rfl⟩
   go_wp2_with fail
   refine L.o.mono ?_;rintro e K⟨rfl,rfl⟩;go_wp2;go_ret2;exact⟨rfl,blr⟩
  |true =>
   rw[c]at c1;rw[j]at c2;have E:=qh c1;clear c1;have L:=qh c2;clear c2;have lm:=CR c;have ln:=CR j;have P:=Cw s w c;replace P:=qh P;have Q:=λw=>Cw t w j;replace Q:=qh Q;replace c:=qh c;replace j:=qh j;have h:gcdF s t=(str (dec (Nat.gcd (val s) (val t))),0):=by unfold gcdF;rw[c.o,j.o];rfl
   rw[h];clear h
   go_enter func197,ntmps197
   go_wp2_with fail
   refine E.o.mono ?_;rintro e K⟨rfl,rfl⟩
   go_wp2_with fail
   refine L.o.mono ?_;rintro e K⟨rfl,rfl⟩
   go_wp2_with fail
   refine P.o.mono ?_;rintro e w1⟨v1,rfl,B,k⟩;replace B:=qh B;replace k:=qh k;have R:=k.o.size
   go_wp2_with fail
   refine(Q.o w1).mono ?_;rintro e w2⟨v2,rfl,C,d⟩;replace C:=qh C;replace d:=qh d;have Z:=d.o.size;have N:=qh<|B.o.sl.below d.o nlr
   go_wp2_with fail
   go_loopg [6,7] (val t) (λg vx vy wr=>∃p:Nat,Sl wr .u64 vx (toB p)/\Sl wr .u64 vy (toB g)/\Nat.gcd p g=Nat.gcd (val s) (val t)/\(toB p).length<=112/\(toB g).length<=112/\Below w.heap.size w wr)
   case atStart=>exact⟨val s,N.o,C.o.sl,rfl,lm,ln,k.o.trans (d.o.mono R)⟩
   obtain⟨p,G,H,J,X,F,hb⟩:=hrel;obtain⟨a1,c1,rfl⟩:=G.shape;obtain⟨a2,c2,rfl⟩:=H.shape;replace G:=qh G;replace H:=qh H;replace J:=qh J;replace hb:=qh hb;have I:=hb.o.size;by_cases i:gk=0
   ·have A:(toB gk).length=0:=by rw[i];rfl
    have z:p=Nat.gcd (val s) (val t):=by rw[<-J.o,i,Nat.gcd_zero_right]
    rw[A];replace z:=qh z;clear i A F;have D:=GB _ p wr G.o (by omega) (O.o.below hb.o nlr);replace D:=qh D
    go_wp2_with fail
    refine D.o.mono ?_;rintro e w5⟨rfl,o⟩;replace o:=qh o;go_wp2;go_ret2;exact⟨Iw (by rw[z.o]) rfl,hb.o.trans (o.o.mono I)⟩
   have A:=Ek i;have u:=MI _ _ p gk wr G.o H.o i (by omega);replace u:=qh u;have Y:=Ej<|Nat.le_of_lt (Nat.mod_lt p (Nat.pos_of_ne_zero i));replace i:=qh i
   go_wp2_with fail
   refine u.o.mono ?_;rintro e w3⟨vq,vr,rfl,S,h,l⟩;replace S:=qh S;have W:=qh h;clear h;replace l:=qh l
   go_wp2_with fail
   go_roundg (p % gk)
   case measure=>exact Nat.mod_lt _ (Nat.pos_of_ne_zero i.o)
   case rel=>exact⟨gk,H.o.below l.o nlr,W.o,by rw[<-J.o,Nat.gcd_comm gk,<-Nat.gcd_rec,Nat.gcd_comm],F,by omega,hb.o.trans (l.o.mono I)⟩
def fits(n:Nat):Prop:=(dec n).length<=1000
theorem AD(n:Nat):val (str (dec n))=n:=by unfold val;rw[AL];exact CH n
def AU(h:fits n):vld (str (dec n))=true:=by unfold vld;rw[AL];exact Lp h
def EC(h:vld s=true):str (dec (val s))=s:=by unfold val;rw[BV h,Ei]
theorem FO(h:vld s=true):fits (val s):=by unfold fits val;rw[BV h,Aq];exact(BI h).2
def Cf{m:Nat}(h:fits n)(c:m<=n):fits m:=by
 unfold fits at *;exact BK.2 ⟨Nat.lt_of_le_of_lt c (BK.1 h).1,by omega⟩
def AS(h:fits n):(str (dec n)).size<=maxLen:=by rw[AH];unfold fits at h;unfold maxLen;omega
def Nr(h:fits n):limS n=(str (dec n),0):=ifp h
def QY(c:vld s=true)(d:vld t=true):addF s t=limS (val s+val t):=by unfold addF;rw[c,d];rfl
def UX(c:vld s=true)(d:vld t=true):mulF s t=limS (val s*val t):=by unfold mulF;rw[c,d];rfl
def LG(c:vld s=true)(d:vld t=true)(h:fits (val s+val t)):addF s t=(str (dec (val s+val t)),0):=by rw[QY c d,Nr h]
theorem NL(c:vld s=true)(d:vld t=true)(h:fits (val s*val t)):mulF s t=(str (dec (val s*val t)),0):=by rw[UX c d,Nr h]
theorem XM(c:vld s=true)(d:vld t=true):subF s t=if val s<val t then (⟨#[]⟩,4) else (str (dec (val s-val t)),0):=by unfold subF;rw[c,d];rfl
def PN(c:vld s=true)(d:vld t=true)(h:val t<=val s):subF s t=(str (dec (val s-val t)),0):=by rw[XM c d,ifn (by omega)]
theorem Ta(c:vld s=true)(d:vld t=true):divF s t=if val t=0 then (⟨#[]⟩,⟨#[]⟩,4) else (str (dec (val s / val t)),str (dec (val s % val t)),0):=by unfold divF;rw[c,d];rfl
def Jx(c:vld s=true)(d:vld t=true)(h:val t≠0):divF s t=(str (dec (val s / val t)),str (dec (val s % val t)),0):=by rw[Ta c d,ifn h]
theorem MX(c:vld s=true)(d:vld t=true):gcdF s t=(str (dec (Nat.gcd (val s) (val t))),0):=by unfold gcdF;rw[c,d];rfl
variable{c d k:Nat}{q:Rat}
def MV(h:n<10 ^ k)(d:k<=1000)(c:1<=k):fits n:=by
 unfold fits;have:=BK.2 ⟨h,c⟩;omega
def BC(h:fitQ q):fits q.num.natAbs:=by unfold fits;have:=h.1;omega
def AZ(h:fitQ q):fits q.den:=by unfold fits;have:=h.2;omega
def pow400(h:(dec n).length<=400):n<10 ^ 400:=(BK.1 h).1
def Kc(c:m<10 ^ k)(d:n<10 ^ k):m*n<10 ^ (k+k):=by rw[Nat.pow_add];exact UH c d
def XU(g:a<10 ^ k)(hb:b<10 ^ k)(h:c<10 ^ k)(hd:d<10 ^ k):a*b+c*d<10 ^ (k+k+1):=by
 have i:=Kc g hb;have j:=Kc h hd;rw[Nat.pow_succ];omega
def Bo(c:(dec m).length<=400)(hn:(dec n).length<=400):fits (m*n) :=
 MV (Kc (pow400 c) (pow400 hn)) (by omega) (by omega)
def FN(g:(dec a).length<=400)(hb:(dec b).length<=400)(h:(dec c).length<=400)(hd:(dec d).length<=400):fits (a*b+c*d) :=
 MV (XU (pow400 g) (pow400 hb) (pow400 h) (pow400 hd)) (by omega) (by omega)
def StrE(s:ByteArray)(w:World)(e:Ending)(w':World):Prop:=e=.returned (.string s)/\Below w.heap.size w w'
def StrZ(s:ByteArray)(w:World)(e:Ending)(w':World):Prop:=e=.returned (.tuple #[.string s,.int .i64 0])/\Below w.heap.size w w'
def Vk(m n:Nat)(w:World)(c:fits m)(hn:fits n)(h:fits (m+n))(d:Tab w):
  Calls prog 198 #[.string (str (dec m)),.string (str (dec n))] w (StrZ (str (dec (m+n))) w):=by
 have:=Ri (str (dec m)) (str (dec n)) w (AS c) (AS hn) d;rw[LG (AU c) (AU hn) (by rw[AD,AD];exact h),AD,AD]at this;exact this
def NX(m n:Nat)(w:World)(c:fits m)(hn:fits n)(h:n<=m)(d:Tab w):
  Calls prog 200 #[.string (str (dec m)),.string (str (dec n))] w (StrZ (str (dec (m-n))) w):=by
 have:=XN (str (dec m)) (str (dec n)) w (AS c) (AS hn) d;rw[PN (AU c) (AU hn) (by rw[AD,AD];exact h),AD,AD]at this;exact this
def CG(m n:Nat)(w:World)(c:fits m)(hn:fits n)(h:fits (m*n))(d:Tab w):
  Calls prog 166 #[.string (str (dec m)),.string (str (dec n))] w (StrZ (str (dec (m*n))) w):=by
 have:=Vb (str (dec m)) (str (dec n)) w (AS c) (AS hn) d;rw[NL (AU c) (AU hn) (by rw[AD,AD];exact h),AD,AD]at this;exact this
def NS(m n:Nat)(w:World)(c:fits m)(hn:fits n)(d:Tab w):
  Calls prog 197 #[.string (str (dec m)),.string (str (dec n))] w (StrZ (str (dec (Nat.gcd m n))) w):=by
 have:=TZ (str (dec m)) (str (dec n)) w (AS c) (AS hn) d;rw[MX (AU c) (AU hn),AD,AD]at this;exact this
def Vl(m n:Nat)(w:World)(c:fits m)(hn:fits n)(h:n≠0)(d:Tab w):
  Calls prog 229 #[.string (str (dec m)),.string (str (dec n))] w λe w'=>e=.returned (.tuple #[.string (str (dec (m / n))),.string (str (dec (m % n))),.int .i64 0])/\Below w.heap.size w w':=by
 have:=Tc (str (dec m)) (str (dec n)) w (AS c) (AS hn) d;rw[Jx (AU c) (AU hn) (by rw[AD];exact h),AD,AD]at this;exact this
def NQ(m n:Nat)(w:World)(c:fits m)(hn:fits n):
  Calls prog 199 #[.string (str (dec m)),.string (str (dec n))] w (IntEnd (cmpN m n) w):=by
 have:=Su (str (dec m)) (str (dec n)) w (AS c) (AS hn);unfold cmpF at this;rw[AU c,AU hn,AD,AD]at this;exact this
def OG(m n:Nat)(w:World)(d:fits m)(hn:fits n)(h:n≠0)(g:Tab w):
  Calls prog 212 #[.string (str (dec m)),.string (str (dec n))] w (StrE (str (dec (m / n))) w):=by
 have c:=Vl m n w d hn h g;replace c:=qh c;clear d hn h g
 go_enter func212,ntmps212
 go_wp2_with fail
 refine nxa c.o λj i=>?_
 go_wp2_with fail
 refine(Ba _ _).mono ?_;rintro e k⟨rfl,rfl⟩;go_wp2;go_ret;exact⟨rfl,i.o⟩
def Kz(p q:Bool)(m n:Nat)(w:World)(h:fits (m+n))(j:Tab w):
  Calls prog 164 #[.bool p,.string (str (dec m)),.bool q,.string (str (dec n))] w λe w' =>
   e=.returned (.tuple #[.bool (sumF p m q n).1,.string (str (dec (sumF p m q n).2))])/\Below w.heap.size w w':=by
 have k:fits m:=Cf h (by omega);have l:fits n:=Cf h (by omega);by_cases g:p=q
 ·subst g;have o:sumF p m p n=(p,m+n):=by unfold sumF;rw[ifp rfl]
  rw[o];have i:=Vk m n w k l h j;have B:=qh i;clear i k l h j o;have I:(p==p)=true:=by cases p<;>rfl
  go_enter func164,ntmps164
  go_wp2_with fail
  refine nxa B.o λs E=>?_
  go_wp2_with fail
  refine(Ba _ _).mono ?_;rintro e H⟨rfl,rfl⟩;go_wp2;go_ret2;exact⟨rfl,E.o⟩
 have hb:(p==q)=false:=by rw[beq_eq_false_iff_ne];exact g
 by_cases d:m<n;have o:sumF p m q n=(q,n-m):=by unfold sumF;rw[ifn g,ifp d]
 rw[o];have i:=NQ m n w k l;rw[Cq d]at i;have hd:=λs j=>NX n m s l k (Nat.le_of_lt d) j
 rotate_left
 have o:sumF p m q n=(p,m-n):=by unfold sumF;rw[ifn g,ifn d]
 rw[o];have i:=NQ m n w k l;have C:0<=cmpN m n:=by
  rcases Nat.lt_or_ge n m with D|D
  ·rw[CV D];omega
  rw[DV (by omega)];omega
 generalize cmpN m n=z at i C;have hd:=λs j=>NX m n s k l (by omega) j
 all_goals
  have B:=qh i;clear i;have F:=qh hd;clear hd;have G:=qh j;clear k l h j o d g
  go_enter func164,ntmps164
  go_wp2_with fail
  refine B.o.mono ?_;rintro e s⟨rfl,c⟩;replace c:=qh c
  go_wp2_with fail
  refine(F.o s (G.o.below c.o nlr)).mono ?_;rintro e H⟨rfl,u⟩;have A:=qh<|c.o.trans (u.mono c.o.size);clear u
  go_wp2_with fail
  refine(Ba _ _).mono ?_;rintro e J⟨rfl,rfl⟩;go_wp2;go_ret2;exact⟨rfl,A.o⟩
def PT:Ending:=.panicked [{ v:=.iface 209 (.agg #[]),recovered:=false }]
def QEnd(q:Rat)(w:World)(e:Ending)(w':World):Prop:=e=(if fitQ q then .returned (nv q) else PT)/\Below w.heap.size w w'
def res3{w wk:World}{a b c:Value}{t:TypeId}(h:Below (w.alloc (.cells #[a,b,c] t)).heap.size (w.alloc (.cells #[a,b,c] t)) wk):
  wk.cell? (Ad w.heap.size 0)=some a/\wk.cell? (Ad w.heap.size 1)=some b/\wk.cell? (Ad w.heap.size 2)=some c/\wk.frozen? (Ad w.heap.size 0)=false/\wk.frozen? (Ad w.heap.size 1)=false/\wk.frozen? (Ad w.heap.size 2)=false/\w.heap.size<wk.heap.size:=by
 have g:=h.size;have d:w.heap.size<(w.alloc (.cells #[a,b,c] t)).heap.size:=by simp
 refine⟨?_,?_,?_,?_,?_,?_,by omega⟩
 ·exact(h.cell (p:=(Ad w.heap.size 0)) d).trans (by simp)
 ·exact(h.cell (p:=(Ad w.heap.size 1)) d).trans (by simp)
 ·exact(h.cell (p:=(Ad w.heap.size 2)) d).trans (by simp)
 ·exact(h.frozen (p:=(Ad w.heap.size 0)) d).trans (by simp)
 ·exact(h.frozen (p:=(Ad w.heap.size 1)) d).trans (by simp)
 exact(h.frozen (p:=(Ad w.heap.size 2)) d).trans (by simp)
def set3{w:World}{n:Nat}{a b c a' b' c':Value}(k0:w.cell? (Ad n 0)=some a)(k1:w.cell? (Ad n 1)=some b)(k2:w.cell? (Ad n 2)=some c):
  (((w.setCell (Ad n 0) a').setCell (Ad n 1) b').setCell (Ad n 2) c').cell? (Ad n 0)=some a'/\(((w.setCell (Ad n 0) a').setCell (Ad n 1) b').setCell (Ad n 2) c').cell? (Ad n 1)=some b'/\(((w.setCell (Ad n 0) a').setCell (Ad n 1) b').setCell (Ad n 2) c').cell? (Ad n 2)=some c':=by
 refine⟨?_,?_,?_⟩<;>simp[go_sem,k0,k1,k2]
theorem Ec{fn:Func}{p:Tmp}(h:fn.results=#[.cell p 180])(c:Array Value)(W:World)(n:Nat)(r:Bool)(x y:ByteArray)
  (g:c.getD p undef=.pointer (some (Ad n 0))) (c0:W.cell? (Ad n 0)=some (.bool r)) (c1:W.cell? (Ad n 1)=some (.string x)) (c2:W.cell? (Ad n 2)=some (.string y)) :
  (results fn c).run prog W=.ok (.agg #[.bool r,.string x,.string y]) W:=by
 have d:c[p]?.getD undef=.pointer (some (Ad n 0)):=by rw[<-g];simp
 simp only[results,h];simp[d,go_sem,c0,c1,c2]
theorem WF(s:Bool)(a b g x y:ByteArray)(r:Bool)(w:World)(Q:(s=false/\r=false)\/(s=true/\(a.toList==[48])=!r))
  (G:x.size<=1000) (H:y.size<=1000)
  (c1:∀wx,Below w.heap.size w wx->Calls prog 197 #[.string a,.string b] wx (StrZ g wx))
  (c2:∀wx,Below w.heap.size w wx->Calls prog 212 #[.string a,.string g] wx (StrE x wx))
  (c3:∀wx,Below w.heap.size w wx->Calls prog 212 #[.string b,.string g] wx (StrE y wx)) :
  Calls prog 180 #[.bool s,.string a,.string b] w λe w' =>
   e=(if x.size<=400/\y.size<=400 then .returned (nvS r x y) else PT)/\Below w.heap.size w w':=by
 replace c1:=qh c1;replace c2:=qh c2;replace c3:=qh c3;have l:Below w.heap.size w (w.alloc (.cells #[.bool false,.string ⟨#[]⟩,.string ⟨#[]⟩] 180)):=blr.alloc nlr _;replace l:=qh l;have D:(x.size<=400/\y.size<=400)\/(x.size<=400/\400<y.size)\/400<x.size:=by omega
 unfold PT nvS
 rcases Q with⟨rfl,rfl⟩|⟨rfl,R⟩
 ·
  rcases D with⟨A,E⟩|⟨A,E⟩|A
  ·rw[ifp ⟨A,E⟩];have L:(x.size:Int)<=400:=by omega
   have P:(y.size:Int)<=400:=by omega
   clear A E;clear G H
   go_enter func180,ntmps180
   go_wp2_with fail
   refine(c1.o _ l.o).mono ?_;rintro e N⟨rfl,i⟩;have o:=qh i;have c:=qh<|l.o.trans (i.mono l.o.size);clear i
   go_wp2_with fail
   refine(Ba _ _).mono ?_;rintro e C⟨rfl,rfl⟩
   go_wp2_with fail
   refine(c2.o _ c.o).mono ?_;rintro e C⟨rfl,j⟩;have p:=qh<|o.o.trans (j.mono o.o.size);have d:=qh<|c.o.trans (j.mono c.o.size);clear j
   go_wp2_with fail
   refine(c3.o _ d.o).mono ?_;rintro e O⟨rfl,k⟩;have u:=qh<|p.o.trans (k.mono p.o.size);have m:=qh<|d.o.trans (k.mono d.o.size);clear k;obtain⟨F,k1,k2,I,J,K,z⟩:=res3 u.o;have B:=qh m.o.size
   go_wp2_with fail
   obtain⟨s0,s1,s2⟩:=set3 (a':=.bool false) (b':=.string x) (c':=.string y) F k1 k2;refine bodyPost_ret (Ec rfl _ _ w.heap.size false x y rfl ?_ ?_ ?_) rfl ⟨rfl,?_⟩
   ·rw[World.cell?_alloc_past (hn:=by simpa using z)];exact s0
   ·rw[World.cell?_alloc_past (hn:=by simpa using z)];exact s1
   ·rw[World.cell?_alloc_past (hn:=by simpa using z)];exact s2
   exact(((m.o.setCell nlr _).setCell nlr _).setCell nlr _).alloc (by simpa using B.o) _
  ·rw[ifn (λh=>by omega)];have L:(x.size:Int)<=400:=by omega
   have P:(400:Int)<(y.size:Int):=by omega
   clear A E;clear G H
   go_enter func180,ntmps180
   go_wp2_with fail
   refine(c1.o _ l.o).mono ?_;rintro e N⟨rfl,i⟩;have o:=qh i;have c:=qh<|l.o.trans (i.mono l.o.size);clear i
   go_wp2_with fail
   refine(Ba _ _).mono ?_;rintro e C⟨rfl,rfl⟩
   go_wp2_with fail
   refine(c2.o _ c.o).mono ?_;rintro e C⟨rfl,j⟩;have p:=qh<|o.o.trans (j.mono o.o.size);have d:=qh<|c.o.trans (j.mono c.o.size);clear j
   go_wp2_with fail
   refine(c3.o _ d.o).mono ?_;rintro e O⟨rfl,k⟩;have u:=qh<|p.o.trans (k.mono p.o.size);have m:=qh<|d.o.trans (k.mono d.o.size);clear k;obtain⟨F,k1,k2,I,J,K,z⟩:=res3 u.o;have B:=qh m.o.size
   go_wp2_with fail
   exact⟨rfl,rfl,m.o.alloc B.o _⟩
  rw[ifn (λh=>by omega)];have L:(400:Int)<(x.size:Int):=by omega
  clear A;clear G H
  go_enter func180,ntmps180
  go_wp2_with fail
  refine(c1.o _ l.o).mono ?_;rintro e N⟨rfl,i⟩;have o:=qh i;have c:=qh<|l.o.trans (i.mono l.o.size);clear i
  go_wp2_with fail
  refine(Ba _ _).mono ?_;rintro e C⟨rfl,rfl⟩
  go_wp2_with fail
  refine(c2.o _ c.o).mono ?_;rintro e C⟨rfl,j⟩;have p:=qh<|o.o.trans (j.mono o.o.size);have d:=qh<|c.o.trans (j.mono c.o.size);clear j
  go_wp2_with fail
  refine(c3.o _ d.o).mono ?_;rintro e O⟨rfl,k⟩;have u:=qh<|p.o.trans (k.mono p.o.size);have m:=qh<|d.o.trans (k.mono d.o.size);clear k;obtain⟨F,k1,k2,I,J,K,z⟩:=res3 u.o;have B:=qh m.o.size
  go_wp2_with fail
  exact⟨rfl,rfl,m.o.alloc B.o _⟩
 cases r<;>simp only[Bool.not_true,Bool.not_false]at R
 ·
  rcases D with⟨A,E⟩|⟨A,E⟩|A
  ·rw[ifp ⟨A,E⟩];have L:(x.size:Int)<=400:=by omega
   have P:(y.size:Int)<=400:=by omega
   clear A E;clear G H
   go_enter func180,ntmps180
   go_wp2_with fail
   refine(c1.o _ l.o).mono ?_;rintro e N⟨rfl,i⟩;have o:=qh i;have c:=qh<|l.o.trans (i.mono l.o.size);clear i
   go_wp2_with fail
   refine(Ba _ _).mono ?_;rintro e C⟨rfl,rfl⟩
   go_wp2_with fail
   refine(c2.o _ c.o).mono ?_;rintro e C⟨rfl,j⟩;have p:=qh<|o.o.trans (j.mono o.o.size);have d:=qh<|c.o.trans (j.mono c.o.size);clear j
   go_wp2_with fail
   refine(c3.o _ d.o).mono ?_;rintro e O⟨rfl,k⟩;have u:=qh<|p.o.trans (k.mono p.o.size);have m:=qh<|d.o.trans (k.mono d.o.size);clear k;obtain⟨F,k1,k2,I,J,K,z⟩:=res3 u.o;have B:=qh m.o.size
   go_wp2_with fail
   obtain⟨s0,s1,s2⟩:=set3 (a':=.bool false) (b':=.string x) (c':=.string y) F k1 k2;refine bodyPost_ret (Ec rfl _ _ w.heap.size false x y rfl ?_ ?_ ?_) rfl ⟨rfl,?_⟩
   ·rw[World.cell?_alloc_past (hn:=by simpa using z)];exact s0
   ·rw[World.cell?_alloc_past (hn:=by simpa using z)];exact s1
   ·rw[World.cell?_alloc_past (hn:=by simpa using z)];exact s2
   exact(((m.o.setCell nlr _).setCell nlr _).setCell nlr _).alloc (by simpa using B.o) _
  ·rw[ifn (λh=>by omega)];have L:(x.size:Int)<=400:=by omega
   have P:(400:Int)<(y.size:Int):=by omega
   clear A E;clear G H
   go_enter func180,ntmps180
   go_wp2_with fail
   refine(c1.o _ l.o).mono ?_;rintro e N⟨rfl,i⟩;have o:=qh i;have c:=qh<|l.o.trans (i.mono l.o.size);clear i
   go_wp2_with fail
   refine(Ba _ _).mono ?_;rintro e C⟨rfl,rfl⟩
   go_wp2_with fail
   refine(c2.o _ c.o).mono ?_;rintro e C⟨rfl,j⟩;have p:=qh<|o.o.trans (j.mono o.o.size);have d:=qh<|c.o.trans (j.mono c.o.size);clear j
   go_wp2_with fail
   refine(c3.o _ d.o).mono ?_;rintro e O⟨rfl,k⟩;have u:=qh<|p.o.trans (k.mono p.o.size);have m:=qh<|d.o.trans (k.mono d.o.size);clear k;obtain⟨F,k1,k2,I,J,K,z⟩:=res3 u.o;have B:=qh m.o.size
   go_wp2_with fail
   exact⟨rfl,rfl,m.o.alloc B.o _⟩
  rw[ifn (λh=>by omega)];have L:(400:Int)<(x.size:Int):=by omega
  clear A;clear G H
  go_enter func180,ntmps180
  go_wp2_with fail
  refine(c1.o _ l.o).mono ?_;rintro e N⟨rfl,i⟩;have o:=qh i;have c:=qh<|l.o.trans (i.mono l.o.size);clear i
  go_wp2_with fail
  refine(Ba _ _).mono ?_;rintro e C⟨rfl,rfl⟩
  go_wp2_with fail
  refine(c2.o _ c.o).mono ?_;rintro e C⟨rfl,j⟩;have p:=qh<|o.o.trans (j.mono o.o.size);have d:=qh<|c.o.trans (j.mono c.o.size);clear j
  go_wp2_with fail
  refine(c3.o _ d.o).mono ?_;rintro e O⟨rfl,k⟩;have u:=qh<|p.o.trans (k.mono p.o.size);have m:=qh<|d.o.trans (k.mono d.o.size);clear k;obtain⟨F,k1,k2,I,J,K,z⟩:=res3 u.o;have B:=qh m.o.size
  go_wp2_with fail
  exact⟨rfl,rfl,m.o.alloc B.o _⟩
 rcases D with⟨A,E⟩|⟨A,E⟩|A
 ·rw[ifp ⟨A,E⟩];have L:(x.size:Int)<=400:=by omega
  have P:(y.size:Int)<=400:=by omega
  clear A E;clear G H
  go_enter func180,ntmps180
  go_wp2_with fail
  refine(c1.o _ l.o).mono ?_;rintro e N⟨rfl,i⟩;have o:=qh i;have c:=qh<|l.o.trans (i.mono l.o.size);clear i
  go_wp2_with fail
  refine(Ba _ _).mono ?_;rintro e C⟨rfl,rfl⟩
  go_wp2_with fail
  refine(c2.o _ c.o).mono ?_;rintro e C⟨rfl,j⟩;have p:=qh<|o.o.trans (j.mono o.o.size);have d:=qh<|c.o.trans (j.mono c.o.size);clear j
  go_wp2_with fail
  refine(c3.o _ d.o).mono ?_;rintro e O⟨rfl,k⟩;have u:=qh<|p.o.trans (k.mono p.o.size);have m:=qh<|d.o.trans (k.mono d.o.size);clear k;obtain⟨F,k1,k2,I,J,K,z⟩:=res3 u.o;have B:=qh m.o.size
  go_wp2_with fail
  obtain⟨s0,s1,s2⟩:=set3 (a':=.bool true) (b':=.string x) (c':=.string y) F k1 k2;refine bodyPost_ret (Ec rfl _ _ w.heap.size true x y rfl ?_ ?_ ?_) rfl ⟨rfl,?_⟩
  ·rw[World.cell?_alloc_past (hn:=by simpa using z)];exact s0
  ·rw[World.cell?_alloc_past (hn:=by simpa using z)];exact s1
  ·rw[World.cell?_alloc_past (hn:=by simpa using z)];exact s2
  exact(((m.o.setCell nlr _).setCell nlr _).setCell nlr _).alloc (by simpa using B.o) _
 ·rw[ifn (λh=>by omega)];have L:(x.size:Int)<=400:=by omega
  have P:(400:Int)<(y.size:Int):=by omega
  clear A E;clear G H
  go_enter func180,ntmps180
  go_wp2_with fail
  refine(c1.o _ l.o).mono ?_;rintro e N⟨rfl,i⟩;have o:=qh i;have c:=qh<|l.o.trans (i.mono l.o.size);clear i
  go_wp2_with fail
  refine(Ba _ _).mono ?_;rintro e C⟨rfl,rfl⟩
  go_wp2_with fail
  refine(c2.o _ c.o).mono ?_;rintro e C⟨rfl,j⟩;have p:=qh<|o.o.trans (j.mono o.o.size);have d:=qh<|c.o.trans (j.mono c.o.size);clear j
  go_wp2_with fail
  refine(c3.o _ d.o).mono ?_;rintro e O⟨rfl,k⟩;have u:=qh<|p.o.trans (k.mono p.o.size);have m:=qh<|d.o.trans (k.mono d.o.size);clear k;obtain⟨F,k1,k2,I,J,K,z⟩:=res3 u.o;have B:=qh m.o.size
  go_wp2_with fail
  exact⟨rfl,rfl,m.o.alloc B.o _⟩
 rw[ifn (λh=>by omega)];have L:(400:Int)<(x.size:Int):=by omega
 clear A;clear G H
 go_enter func180,ntmps180
 go_wp2_with fail
 refine(c1.o _ l.o).mono ?_;rintro e N⟨rfl,i⟩;have o:=qh i;have c:=qh<|l.o.trans (i.mono l.o.size);clear i
 go_wp2_with fail
 refine(Ba _ _).mono ?_;rintro e C⟨rfl,rfl⟩
 go_wp2_with fail
 refine(c2.o _ c.o).mono ?_;rintro e C⟨rfl,j⟩;have p:=qh<|o.o.trans (j.mono o.o.size);have d:=qh<|c.o.trans (j.mono c.o.size);clear j
 go_wp2_with fail
 refine(c3.o _ d.o).mono ?_;rintro e O⟨rfl,k⟩;have u:=qh<|p.o.trans (k.mono p.o.size);have m:=qh<|d.o.trans (k.mono d.o.size);clear k;obtain⟨F,k1,k2,I,J,K,z⟩:=res3 u.o;have B:=qh m.o.size
 go_wp2_with fail
 exact⟨rfl,rfl,m.o.alloc B.o _⟩
def Iu(s:Bool)(m d:Nat)(w:World)(p:fits m)(hd:fits d)(k:d≠0)(F:Tab w):
  Calls prog 180 #[.bool s,.string (str (dec m)),.string (str (dec d))] w (QEnd (mkRat (sg s m) d) w):=by
 obtain⟨i,j,A⟩:=NH (sg s m) d k;rw[IA]at i j;have z:fits (Nat.gcd m d):=Cf hd (Nat.le_of_dvd (Nat.pos_of_ne_zero k) (Nat.gcd_dvd_right _ _));have g:Nat.gcd m d≠0:=by have:=Nat.gcd_pos_of_pos_right m (Nat.pos_of_ne_zero k);omega
 have o:∀c,Below w.heap.size w c->Tab c:=λc h=>F.below h nlr;have B:fits (m / Nat.gcd m d):=Cf p (Nat.div_le_self _ _);have C:fits (d / Nat.gcd m d):=Cf hd (Nat.div_le_self _ _);have D:=WF s (str (dec m)) (str (dec d)) (str (dec (Nat.gcd m d))) (str (dec (m / Nat.gcd m d))) (str (dec (d / Nat.gcd m d))) (negQ (mkRat (sg s m) d)) w ?_ ?_ ?_
  (λc h=>NS m d c p hd (o c h)) (λc h=>OG m _ c p z g (o c h)) (λc h=>OG d _ c hd z g (o c h))
 ·refine D.mono ?_;rintro e G⟨rfl,hb⟩;refine⟨?_,hb⟩;have hf:fitQ (mkRat (sg s m) d)↔((str (dec (m / Nat.gcd m d))).size<=400/\(str (dec (d / Nat.gcd m d))).size<=400):=by
   unfold fitQ;rw[i,j,AH,AH]
  have E:nv (mkRat (sg s m) d)=nvS (negQ (mkRat (sg s m) d)) (str (dec (m / Nat.gcd m d))) (str (dec (d / Nat.gcd m d))):=by
   unfold nv;rw[i,j]
  rw[E];by_cases h:fitQ (mkRat (sg s m) d)
  ·rw[ifp h,ifp (hf.1 h)]
  rw[ifn h,ifn (λe=>h (hf.2 e))]
 ·rw[A];cases s
  ·left;refine⟨rfl,?_⟩;rw[decide_eq_false_iff_not,IB];simp
  right;refine⟨rfl,?_⟩
  by_cases u:m=0
  ·subst u;rw[Cz,Lib.toList_data];rfl
  have:(decide (sg true m<0))=true:=by rw[decide_eq_true_eq,IB];exact⟨rfl,u⟩
  rw[this];exact BQ (l:=[48]) (λe=>u (Cy ((by have:=congrArg bts e;rw[AL,AL]at this;exact this:dec m=[48]).trans Cz.symm)))
 ·rw[AH];exact B
 rw[AH];exact C
variable{wk:World}{p q:Bool}{c d g i j:ByteArray}
def Ag{W a b:World}(h:Below W.heap.size W a)(hb:Below a.heap.size a b):Below W.heap.size W b:=h.trans<|hb.mono h.size
def WR(p q:Bool)(xn xd yn yd:ByteArray)(w:World):World :=
 ((w.alloc (.cells #[.bool p,.string xn,.string xd] 180)).alloc (.cells #[.bool q,.string yn,.string yd] 180)).alloc (.cells #[.bool false,.string ⟨#[]⟩,.string ⟨#[]⟩] 180)
def GQ(p q:Bool)(d c h g:ByteArray)(w:World):Below w.heap.size w (WR p q d c h g w):=by
 unfold WR;exact((blr.alloc nlr _).alloc (by simp) _).alloc (by simp;omega) _
def DR(h:Below (WR p q g d j i w).heap.size (WR p q g d j i w) wk):
  Below (WR p q g d j i w).heap.size (WR p q g d j i w) wk/\
  wk.cell? (Ad w.heap.size 0)=some (.bool p)/\wk.cell? (Ad w.heap.size 1)=some (.string g)/\wk.cell? (Ad w.heap.size 2)=some (.string d)/\
  wk.cell? (Ad (w.heap.size+1) 0)=some (.bool q)/\wk.cell? (Ad (w.heap.size+1) 1)=some (.string j)/\wk.cell? (Ad (w.heap.size+1) 2)=some (.string i):=by
 have c:∀k,k<3->w.heap.size+k<(WR p q g d j i w).heap.size:=by intro k l;unfold WR;simp;omega
 refine⟨h,?_,?_,?_,?_,?_,?_⟩
 ·exact(h.cell (p:=(Ad w.heap.size 0)) (c 0 (by omega))).trans (by simp[WR,go_sem])
 ·exact(h.cell (p:=(Ad w.heap.size 1)) (c 0 (by omega))).trans (by simp[WR,go_sem])
 ·exact(h.cell (p:=(Ad w.heap.size 2)) (c 0 (by omega))).trans (by simp[WR,go_sem])
 ·exact(h.cell (p:=(Ad (w.heap.size+1) 0)) (c 1 (by omega))).trans (by simp[WR,go_sem])
 ·exact(h.cell (p:=(Ad (w.heap.size+1) 1)) (c 1 (by omega))).trans (by simp[WR,go_sem])
 exact(h.cell (p:=(Ad (w.heap.size+1) 2)) (c 1 (by omega))).trans (by simp[WR,go_sem])
def EO(h:Below (WR p q d c i g w).heap.size (WR p q d c i g w) wk):
  wk.cell? (Ad (w.heap.size+1+1) 0)=some (.bool false)/\wk.cell? (Ad (w.heap.size+1+1) 1)=some (.string ⟨#[]⟩)/\wk.cell? (Ad (w.heap.size+1+1) 2)=some (.string ⟨#[]⟩)/\
  wk.frozen? (Ad (w.heap.size+1+1) 0)=false/\wk.frozen? (Ad (w.heap.size+1+1) 1)=false/\wk.frozen? (Ad (w.heap.size+1+1) 2)=false:=by
 have e:w.heap.size+1+1=((w.alloc (.cells #[.bool p,.string d,.string c] 180)).alloc (.cells #[.bool q,.string i,.string g] 180)).heap.size:=by simp
 rw[e];obtain⟨m,k1,k2,j,k,l,_⟩:=res3 h;exact⟨m,k1,k2,j,k,l⟩
def MO{P:Program}{fn:Func}{R:Ending->World->Prop}{c:List PanicEntry}{a:Act}{S:World->Prop}{G:Act->World->Prop}{g:Act->World->Prop}
  (_:Shut (∀a w,S w->(S w->G a w)->g a w)) (d:Tmp) (v:Value) (h:bodyPost P fn R (.panic c) a w) (_:Hd False->g (a.put (some d) v) w):bodyPost P fn R (.panic c) a w:=h
def Cv(h:Below (WR p q d c i g w).heap.size (WR p q d c i g w) wk):Below (w.heap.size+1+1) (WR p q d c i g w) wk:=by
 refine h.mono ?_;unfold WR;simp
def Cu{k:ByteArray}(h:Below (w.heap.size+1+1) (WR p q i g k j w) wk):
  Below (w.heap.size+1+1) (WR p q i g k j w) wk/\
  wk.cell? (Ad w.heap.size 0)=some (.bool p)/\wk.cell? (Ad w.heap.size 1)=some (.string i)/\wk.cell? (Ad w.heap.size 2)=some (.string g)/\
  wk.cell? (Ad (w.heap.size+1) 0)=some (.bool q)/\wk.cell? (Ad (w.heap.size+1) 1)=some (.string k)/\wk.cell? (Ad (w.heap.size+1) 2)=some (.string j):=by
 have c:w.heap.size<w.heap.size+1+1:=by omega
 have d:w.heap.size+1<w.heap.size+1+1:=by omega
 refine⟨h,?_,?_,?_,?_,?_,?_⟩
 ·exact(h.cell (p:=(Ad w.heap.size 0)) c).trans (by simp[WR,go_sem])
 ·exact(h.cell (p:=(Ad w.heap.size 1)) c).trans (by simp[WR,go_sem])
 ·exact(h.cell (p:=(Ad w.heap.size 2)) c).trans (by simp[WR,go_sem])
 ·exact(h.cell (p:=(Ad (w.heap.size+1) 0)) d).trans (by simp[WR,go_sem])
 ·exact(h.cell (p:=(Ad (w.heap.size+1) 1)) d).trans (by simp[WR,go_sem])
 exact(h.cell (p:=(Ad (w.heap.size+1) 2)) d).trans (by simp[WR,go_sem])
theorem Ug(l:List UInt8):Lib.indexByte l 47=if hasS l then ((upTo l).length:Int) else -1:=by
 induction l with
 |nil=>rfl
 |cons a l ih =>
  by_cases c:a=47
  ·subst c;simp[Lib.indexByte,hasS,upTo]
  have d:hasS (a::l)=hasS l:=by simp[hasS,c]
  have g:upTo (a::l)=a::upTo l:=by simp[upTo,c]
  have h:(a==47)=false:=by rw[beq_eq_false_iff_ne];exact c
  rw[d,g,Lib.indexByte,h,ih];cases hasS l
  ·rfl
  simp only[if_true,List.length_cons,Bool.false_eq_true,if_false];rw[ifn (by rw[beq_iff_eq];omega)];omega
theorem FF(s:ByteArray)(a b:Nat):bts (s.extract a b)=((bts s).take b).drop a:=by
 show (s.extract a b).data.toList=_;rw[ByteArray.data_extract,Array.toList_extract,List.extract_eq_take_drop];exact List.drop_take.symm
def WK{s c t d:ByteArray}{b:Bool}(h:s=c)(g:t=d):Ending.returned (.tuple #[.string s,.string t,.bool b])=.returned (.tuple #[.string c,.string d,.bool b]):=by rw[h,g]
theorem Ue(s:ByteArray)(w:World):
  Calls prog 234 #[.string s,.string ⟨#[47]⟩] w λe w'=>e=.returned (.int .i64 (Lib.indexByte (bts s) 47))/\w=w':=by
 by_cases h:s=⟨#[47]⟩
 ·subst h
  go_enter func234,ntmps234
  go_wp2;go_ret;exact⟨rfl,rfl⟩
 have d:(s.toList==[47])=false:=BQ h;have g:([47]==s.toList)=false:=by rw[Bool.beq_comm];exact d
 have c:=Tryz.stringslite_IndexByte s 47 w;replace c:=qh c;clear h
 go_enter func234,ntmps234
 go_wp2_with fail
 refine c.o.mono ?_;rintro e w'⟨rfl,rfl⟩;go_wp2;go_ret;exact⟨rfl,rfl⟩
def Uu(s:ByteArray)(w:World)(m:s.size<=9223372036854775807):
  Calls prog 221 #[.string s,.string ⟨#[47]⟩] w λe w'=>e=.returned (.tuple #[.string (str (upTo (bts s))),.string (str (if hasS (bts s) then Bj (bts s) else [])),.bool (hasS (bts s))])/\Below w.heap.size w w':=by
 have d:=Ue s w;rw[Ug]at d;cases h:hasS (bts s)
 ·rw[h]at d;simp only[Bool.false_eq_true,if_false]at d;rw[Hp _ h,Ei];have l:=qh d;clear d h
  go_enter func221,ntmps221
  go_wp2_with fail
  refine l.o.mono ?_;rintro e w'⟨rfl,rfl⟩;go_wp2
  go_ret3
  exact⟨rfl,blr⟩
 rw[h]at d;simp only[if_true]at d;have g:=Fc _ h;have c:=congrArg List.length g;rw[Aq,List.length_append,List.length_cons]at c;generalize hi:(upTo (bts s)).length=i at d c;have c1:(0:Int)<=(i:Int):=by omega
 have c2:(i:Int)<=(s.size:Int):=by omega
 have c3:(0:Int)<=(i:Int)+1:=by omega
 have c4:(i:Int)+1<=(s.size:Int):=by omega
 have c5:IntKind.i64.wrap ((i:Int)+1)=(i:Int)+1:=by rw[IntKind.wrap_i64];omega
 have j:s.extract 0 i=str (upTo (bts s)):=by
  apply Do;rw[FF,AL];conv=>lhs;rw[g]
  rw[<-hi,List.take_left,List.drop_zero]
 have k:s.extract (i+1) s.size=str (Bj (bts s)):=by
  apply Do;rw[FF,AL,List.take_of_length_le (by rw[Aq];omega)];conv=>lhs;rw[g]
  rw[<-hi,<-List.drop_drop,List.drop_left];rfl
 have l:=qh d;clear d h;replace j:=qh j;replace k:=qh k;clear g hi c m
 go_enter func221,ntmps221
 go_wp2_with fail
 refine l.o.mono ?_;rintro e w'⟨rfl,rfl⟩
 go_wp2_with fail
 go_quiet (fail)
 go_wp2
 go_ret3
 exact⟨WK j.o k.o,below_drewN blr _⟩
def SE(s:ByteArray)(w:World)(d:s.size<=9223372036854775807):
  Calls prog 195 #[.string s,.string ⟨#[47]⟩] w λe w'=>e=.returned (.tuple #[.string (str (upTo (bts s))),.string (str (if hasS (bts s) then Bj (bts s) else [])),.bool (hasS (bts s))])/\Below w.heap.size w w':=by
 have c:=Uu s w d;generalize str (upTo (bts s))=x at c ⊢;generalize str (if hasS (bts s) then Bj (bts s) else [])=y at c ⊢
 generalize hasS (bts s)=z at c ⊢;replace c:=qh c;clear d
 go_enter func195,ntmps195
 go_wp2_with fail
 refine c.o.mono ?_;rintro e w'⟨rfl,hb⟩;replace hb:=qh hb;go_wp2
 go_ret3
 exact⟨rfl,hb.o⟩
def SI(s:ByteArray)(w:World):
  Calls prog 194 #[.string s,.string ⟨#[45]⟩] w λe w'=>e=.returned (.tuple #[.string (str (Al (bts s))),.bool (AP (bts s))])/\w=w':=by
 refine(Tryz.strings_CutPrefix s ⟨#[45]⟩ w).mono ?_;rintro e w'⟨rfl,rfl⟩;refine⟨?_,rfl⟩;have d:Lib.hasPrefix s.data.toList [45]=AP (bts s):=by
  show Lib.hasPrefix (bts s) [45]=_;cases bts s with
  |nil=>rfl
  |cons a l =>
   show ((45:UInt8)==a&&true)=(a==45);rw[Bool.and_true];exact BEq.comm
 have g:Lib.trimPrefix s.data.toList [45]=Al (bts s):=by
  show Lib.trimPrefix (bts s) [45]=_;unfold Lib.trimPrefix Al;have c:Lib.hasPrefix (bts s) [45]=AP (bts s):=d;rw[c];split
  ·cases bts s<;>rfl
  rfl
 show Ending.returned (.tuple #[.string ⟨(Lib.trimPrefix s.data.toList [45]).toArray⟩,.bool (Lib.hasPrefix s.data.toList [45])])=_;rw[d,g];rfl
def BD{fn:Func}{p u:Tmp}(h:fn.results=#[.cell p 180,.tmp u])(c:Array Value)(W:World)(n:Nat)(r:Bool)(x y:ByteArray)(o:Bool)
  (i:c.getD p undef=.pointer (some (Ad n 0))) (j:c.getD u undef=.bool o) (c0:W.cell? (Ad n 0)=some (.bool r)) (c1:W.cell? (Ad n 1)=some (.string x)) (c2:W.cell? (Ad n 2)=some (.string y)) :
  (results fn c).run prog W=.ok (.tuple #[.agg #[.bool r,.string x,.string y],.bool o]) W:=by
 have d:c[p]?.getD undef=.pointer (some (Ad n 0)):=by rw[<-i];simp
 have g:c[u]?.getD undef=.bool o:=by rw[<-j];simp
 simp only[results,h];simp[d,g,go_sem,c0,c1,c2]
theorem size49:(⟨#[49]⟩:ByteArray).size=1:=rfl
def NoNum:Value:=nvS false ⟨#[]⟩ ⟨#[]⟩
def okB(neg frac vn vd:Bool)(n d g:ByteArray):Bool:=vn&&vd&&decide (n.size<=400)&&decide (d.size<=400)&&!(neg&&(n.toList==[48]))&&!(frac&&(d.toList==[48]||d.toList==[49]))&&(g.toList==[49])
def PairQ(neg:Bool)(n d:ByteArray)(ok:Bool)(w:World)(e:Ending)(w':World):Prop:=e=.returned (.tuple #[if ok then nvS neg n d else NoNum,.bool ok])/\Below w.heap.size w w'
def VK(s r n P d g:ByteArray)(neg B F E:Bool)(w:World)
  (hd:d=if B then P else ⟨#[49]⟩) (hn:n.size<=9223372036854775807) (G:d.size<=9223372036854775807)
  (c1:∀wx,Below w.heap.size w wx->Calls prog 194 #[.string s,.string ⟨#[45]⟩] wx λe w'=>e=.returned (.tuple #[.string r,.bool neg])/\wx=w')
  (c2:∀wx,Below w.heap.size w wx->Calls prog 195 #[.string r,.string ⟨#[47]⟩] wx λe w'=>e=.returned (.tuple #[.string n,.string P,.bool B])/\Below wx.heap.size wx w')
  (c3:∀wx,Calls prog 196 #[.string n] wx λe w'=>e=.returned (.bool F)/\wx=w')
  (c4:∀wx,Calls prog 196 #[.string d] wx λe w'=>e=.returned (.bool E)/\wx=w')
  (c5:F=true->E=true->∀wx,Below w.heap.size w wx->Calls prog 197 #[.string n,.string d] wx (StrZ g wx)) :
  Calls prog 163 #[.string s] w (PairQ neg n d (okB neg B F E n d g) w):=by
 replace c1:=qh c1;replace c2:=qh c2;replace c3:=qh c3;replace c4:=qh c4;replace c5:=qh c5;have C:Below w.heap.size w (w.alloc (.cells #[.bool false,.string ⟨#[]⟩,.string ⟨#[]⟩] 180)):=blr.alloc nlr _;replace C:=qh C;replace hn:=qh hn;have I:=qh G;clear G;have H:=qh hd;clear hd;unfold PairQ NoNum nvS;obtain⟨p,h⟩:∃b,b=okB neg B F E n d g:=⟨_,rfl⟩;rw[<-h];replace h:=qh h
 go_enter func163,ntmps163
 go_wp2_with fail
 refine(c1.o _ C.o).mono ?_;rintro e U⟨rfl,rfl⟩
 go_wp2_with fail
 refine(c2.o _ C.o).mono ?_;rintro e W⟨rfl,D⟩;have i:=qh D;have c:=qh<|C.o.trans (D.mono C.o.size);clear D;cases B
 focus
  have hd:=H.o;simp only[Bool.false_eq_true,if_false]at hd;subst hd;clear I H
  go_wp2_with fail
  refine(c3.o _).mono ?_;rintro e w'⟨rfl,rfl⟩;cases F
  ·
   have hf:p=false:=by rw[h.o];first|(simp[okB, *];done)|simp[okB, *,size49]
   subst hf;obtain⟨k,k1,k2,u,z,A,j⟩:=res3 i.o
   go_wp2_with fail
   obtain⟨s0,s1,s2⟩:=set3 (a':=.bool false) (b':=.string ⟨#[]⟩) (c':=.string ⟨#[]⟩) k k1 k2;exact bodyPost_ret (BD rfl _ _ w.heap.size false ⟨#[]⟩ ⟨#[]⟩ false rfl rfl s0 s1 s2) rfl ⟨rfl,((c.o.setCell nlr _).setCell nlr _).setCell nlr _⟩
  go_wp2_with fail
  refine(c4.o _).mono ?_;rintro e w'⟨rfl,rfl⟩;cases E
  ·
   have hf:p=false:=by rw[h.o];first|(simp[okB, *];done)|simp[okB, *,size49]
   subst hf;obtain⟨k,k1,k2,u,z,A,j⟩:=res3 i.o
   go_wp2_with fail
   obtain⟨s0,s1,s2⟩:=set3 (a':=.bool false) (b':=.string ⟨#[]⟩) (c':=.string ⟨#[]⟩) k k1 k2;exact bodyPost_ret (BD rfl _ _ w.heap.size false ⟨#[]⟩ ⟨#[]⟩ false rfl rfl s0 s1 s2) rfl ⟨rfl,((c.o.setCell nlr _).setCell nlr _).setCell nlr _⟩
  by_cases R:n.size<=400
  ·have J:(n.size:Int)<=400:=by omega
   cases neg
   ·
    go_wp2_with fail
    refine(c5.o (by trivial) (by trivial) _ c.o).mono ?_;rintro e O⟨rfl,l⟩;have o:=qh<|i.o.trans (l.mono i.o.size);have m:=qh<|c.o.trans (l.mono c.o.size);clear l;cases N:(g.toList==[49])
    ·
     have hf:p=false:=by rw[h.o];first|(simp[okB, *];done)|simp[okB, *,size49]
     subst hf;obtain⟨k,k1,k2,u,z,A,j⟩:=res3 o.o
     go_wp2_with fail
     obtain⟨s0,s1,s2⟩:=set3 (a':=.bool false) (b':=.string ⟨#[]⟩) (c':=.string ⟨#[]⟩) k k1 k2;exact bodyPost_ret (BD rfl _ _ w.heap.size false ⟨#[]⟩ ⟨#[]⟩ false rfl rfl s0 s1 s2) rfl ⟨rfl,((m.o.setCell nlr _).setCell nlr _).setCell nlr _⟩
    have hf:p=true:=by rw[h.o];first|(simp[okB, *];done)|simp[okB, *,size49]
    subst hf;obtain⟨k,k1,k2,u,z,A,j⟩:=res3 o.o
    go_wp2_with fail
    obtain⟨s0,s1,s2⟩:=set3 (a':=.bool false) (b':=.string n) (c':=.string ⟨#[49]⟩) k k1 k2;exact bodyPost_ret (BD rfl _ _ w.heap.size false n ⟨#[49]⟩ true rfl rfl s0 s1 s2) rfl ⟨rfl,((m.o.setCell nlr _).setCell nlr _).setCell nlr _⟩
   cases S:(n.toList==[48])
   ·
    go_wp2_with fail
    refine(c5.o (by trivial) (by trivial) _ c.o).mono ?_;rintro e O⟨rfl,l⟩;have o:=qh<|i.o.trans (l.mono i.o.size);have m:=qh<|c.o.trans (l.mono c.o.size);clear l;cases N:(g.toList==[49])
    ·
     have hf:p=false:=by rw[h.o];first|(simp[okB, *];done)|simp[okB, *,size49]
     subst hf;obtain⟨k,k1,k2,u,z,A,j⟩:=res3 o.o
     go_wp2_with fail
     obtain⟨s0,s1,s2⟩:=set3 (a':=.bool false) (b':=.string ⟨#[]⟩) (c':=.string ⟨#[]⟩) k k1 k2;exact bodyPost_ret (BD rfl _ _ w.heap.size false ⟨#[]⟩ ⟨#[]⟩ false rfl rfl s0 s1 s2) rfl ⟨rfl,((m.o.setCell nlr _).setCell nlr _).setCell nlr _⟩
    have hf:p=true:=by rw[h.o];first|(simp[okB, *];done)|simp[okB, *,size49]
    subst hf;obtain⟨k,k1,k2,u,z,A,j⟩:=res3 o.o
    go_wp2_with fail
    obtain⟨s0,s1,s2⟩:=set3 (a':=.bool true) (b':=.string n) (c':=.string ⟨#[49]⟩) k k1 k2;exact bodyPost_ret (BD rfl _ _ w.heap.size true n ⟨#[49]⟩ true rfl rfl s0 s1 s2) rfl ⟨rfl,((m.o.setCell nlr _).setCell nlr _).setCell nlr _⟩
   have hf:p=false:=by rw[h.o];first|(simp[okB, *];done)|simp[okB, *,size49]
   subst hf;obtain⟨k,k1,k2,u,z,A,j⟩:=res3 i.o
   go_wp2_with fail
   obtain⟨s0,s1,s2⟩:=set3 (a':=.bool false) (b':=.string ⟨#[]⟩) (c':=.string ⟨#[]⟩) k k1 k2;exact bodyPost_ret (BD rfl _ _ w.heap.size false ⟨#[]⟩ ⟨#[]⟩ false rfl rfl s0 s1 s2) rfl ⟨rfl,((c.o.setCell nlr _).setCell nlr _).setCell nlr _⟩
  have J:(400:Int)<(n.size:Int):=by omega
 rotate_left
 focus
  have hd:=H.o;simp only[if_true]at hd;subst hd;clear H
  go_wp2_with fail
  refine(c3.o _).mono ?_;rintro e w'⟨rfl,rfl⟩;cases F
  ·
   have hf:p=false:=by rw[h.o];first|(simp[okB, *];done)|simp[okB, *,size49]
   subst hf;obtain⟨k,k1,k2,u,z,A,j⟩:=res3 i.o
   go_wp2_with fail
   obtain⟨s0,s1,s2⟩:=set3 (a':=.bool false) (b':=.string ⟨#[]⟩) (c':=.string ⟨#[]⟩) k k1 k2;exact bodyPost_ret (BD rfl _ _ w.heap.size false ⟨#[]⟩ ⟨#[]⟩ false rfl rfl s0 s1 s2) rfl ⟨rfl,((c.o.setCell nlr _).setCell nlr _).setCell nlr _⟩
  go_wp2_with fail
  refine(c4.o _).mono ?_;rintro e w'⟨rfl,rfl⟩;cases E
  ·
   have hf:p=false:=by rw[h.o];first|(simp[okB, *];done)|simp[okB, *,size49]
   subst hf;obtain⟨k,k1,k2,u,z,A,j⟩:=res3 i.o
   go_wp2_with fail
   obtain⟨s0,s1,s2⟩:=set3 (a':=.bool false) (b':=.string ⟨#[]⟩) (c':=.string ⟨#[]⟩) k k1 k2;exact bodyPost_ret (BD rfl _ _ w.heap.size false ⟨#[]⟩ ⟨#[]⟩ false rfl rfl s0 s1 s2) rfl ⟨rfl,((c.o.setCell nlr _).setCell nlr _).setCell nlr _⟩
  by_cases R:n.size<=400;have J:(n.size:Int)<=400:=by omega
  by_cases T:d.size<=400
  ·have Q:(d.size:Int)<=400:=by omega
   cases neg
   ·
    cases K:(d.toList==[48])
    ·cases L:(d.toList==[49])
     ·
      go_wp2_with fail
      refine(c5.o (by trivial) (by trivial) _ c.o).mono ?_;rintro e O⟨rfl,l⟩;have o:=qh<|i.o.trans (l.mono i.o.size);have m:=qh<|c.o.trans (l.mono c.o.size);clear l;cases N:(g.toList==[49])
      ·
       have hf:p=false:=by rw[h.o];first|(simp[okB, *];done)|simp[okB, *,size49]
       subst hf;obtain⟨k,k1,k2,u,z,A,j⟩:=res3 o.o
       go_wp2_with fail
       obtain⟨s0,s1,s2⟩:=set3 (a':=.bool false) (b':=.string ⟨#[]⟩) (c':=.string ⟨#[]⟩) k k1 k2;exact bodyPost_ret (BD rfl _ _ w.heap.size false ⟨#[]⟩ ⟨#[]⟩ false rfl rfl s0 s1 s2) rfl ⟨rfl,((m.o.setCell nlr _).setCell nlr _).setCell nlr _⟩
      have hf:p=true:=by rw[h.o];first|(simp[okB, *];done)|simp[okB, *,size49]
      subst hf;obtain⟨k,k1,k2,u,z,A,j⟩:=res3 o.o
      go_wp2_with fail
      obtain⟨s0,s1,s2⟩:=set3 (a':=.bool false) (b':=.string n) (c':=.string d) k k1 k2;exact bodyPost_ret (BD rfl _ _ w.heap.size false n d true rfl rfl s0 s1 s2) rfl ⟨rfl,((m.o.setCell nlr _).setCell nlr _).setCell nlr _⟩
     have hf:p=false:=by rw[h.o];first|(simp[okB, *];done)|simp[okB, *,size49]
     subst hf;obtain⟨k,k1,k2,u,z,A,j⟩:=res3 i.o
     go_wp2_with fail
     obtain⟨s0,s1,s2⟩:=set3 (a':=.bool false) (b':=.string ⟨#[]⟩) (c':=.string ⟨#[]⟩) k k1 k2;exact bodyPost_ret (BD rfl _ _ w.heap.size false ⟨#[]⟩ ⟨#[]⟩ false rfl rfl s0 s1 s2) rfl ⟨rfl,((c.o.setCell nlr _).setCell nlr _).setCell nlr _⟩
    have hf:p=false:=by rw[h.o];first|(simp[okB, *];done)|simp[okB, *,size49]
    subst hf;obtain⟨k,k1,k2,u,z,A,j⟩:=res3 i.o
    go_wp2_with fail
    obtain⟨s0,s1,s2⟩:=set3 (a':=.bool false) (b':=.string ⟨#[]⟩) (c':=.string ⟨#[]⟩) k k1 k2;exact bodyPost_ret (BD rfl _ _ w.heap.size false ⟨#[]⟩ ⟨#[]⟩ false rfl rfl s0 s1 s2) rfl ⟨rfl,((c.o.setCell nlr _).setCell nlr _).setCell nlr _⟩
   cases S:(n.toList==[48])
   ·
    cases K:(d.toList==[48])
    ·cases L:(d.toList==[49])
     ·
      go_wp2_with fail
      refine(c5.o (by trivial) (by trivial) _ c.o).mono ?_;rintro e O⟨rfl,l⟩;have o:=qh<|i.o.trans (l.mono i.o.size);have m:=qh<|c.o.trans (l.mono c.o.size);clear l;cases N:(g.toList==[49])
      ·
       have hf:p=false:=by rw[h.o];first|(simp[okB, *];done)|simp[okB, *,size49]
       subst hf;obtain⟨k,k1,k2,u,z,A,j⟩:=res3 o.o
       go_wp2_with fail
       obtain⟨s0,s1,s2⟩:=set3 (a':=.bool false) (b':=.string ⟨#[]⟩) (c':=.string ⟨#[]⟩) k k1 k2;exact bodyPost_ret (BD rfl _ _ w.heap.size false ⟨#[]⟩ ⟨#[]⟩ false rfl rfl s0 s1 s2) rfl ⟨rfl,((m.o.setCell nlr _).setCell nlr _).setCell nlr _⟩
      have hf:p=true:=by rw[h.o];first|(simp[okB, *];done)|simp[okB, *,size49]
      subst hf;obtain⟨k,k1,k2,u,z,A,j⟩:=res3 o.o
      go_wp2_with fail
      obtain⟨s0,s1,s2⟩:=set3 (a':=.bool true) (b':=.string n) (c':=.string d) k k1 k2;exact bodyPost_ret (BD rfl _ _ w.heap.size true n d true rfl rfl s0 s1 s2) rfl ⟨rfl,((m.o.setCell nlr _).setCell nlr _).setCell nlr _⟩
     have hf:p=false:=by rw[h.o];first|(simp[okB, *];done)|simp[okB, *,size49]
     subst hf;obtain⟨k,k1,k2,u,z,A,j⟩:=res3 i.o
     go_wp2_with fail
     obtain⟨s0,s1,s2⟩:=set3 (a':=.bool false) (b':=.string ⟨#[]⟩) (c':=.string ⟨#[]⟩) k k1 k2;exact bodyPost_ret (BD rfl _ _ w.heap.size false ⟨#[]⟩ ⟨#[]⟩ false rfl rfl s0 s1 s2) rfl ⟨rfl,((c.o.setCell nlr _).setCell nlr _).setCell nlr _⟩
    have hf:p=false:=by rw[h.o];first|(simp[okB, *];done)|simp[okB, *,size49]
    subst hf;obtain⟨k,k1,k2,u,z,A,j⟩:=res3 i.o
    go_wp2_with fail
    obtain⟨s0,s1,s2⟩:=set3 (a':=.bool false) (b':=.string ⟨#[]⟩) (c':=.string ⟨#[]⟩) k k1 k2;exact bodyPost_ret (BD rfl _ _ w.heap.size false ⟨#[]⟩ ⟨#[]⟩ false rfl rfl s0 s1 s2) rfl ⟨rfl,((c.o.setCell nlr _).setCell nlr _).setCell nlr _⟩
   have hf:p=false:=by rw[h.o];first|(simp[okB, *];done)|simp[okB, *,size49]
   subst hf;obtain⟨k,k1,k2,u,z,A,j⟩:=res3 i.o
   go_wp2_with fail
   obtain⟨s0,s1,s2⟩:=set3 (a':=.bool false) (b':=.string ⟨#[]⟩) (c':=.string ⟨#[]⟩) k k1 k2;exact bodyPost_ret (BD rfl _ _ w.heap.size false ⟨#[]⟩ ⟨#[]⟩ false rfl rfl s0 s1 s2) rfl ⟨rfl,((c.o.setCell nlr _).setCell nlr _).setCell nlr _⟩
  have Q:(400:Int)<(d.size:Int):=by omega
  rotate_left
  have J:(400:Int)<(n.size:Int):=by omega
 all_goals
  have hf:p=false:=by rw[h.o];first|(simp[okB, *];done)|simp[okB, *,size49]
  subst hf;obtain⟨k,k1,k2,u,z,A,j⟩:=res3 i.o
  go_wp2_with fail
  obtain⟨s0,s1,s2⟩:=set3 (a':=.bool false) (b':=.string ⟨#[]⟩) (c':=.string ⟨#[]⟩) k k1 k2;exact bodyPost_ret (BD rfl _ _ w.heap.size false ⟨#[]⟩ ⟨#[]⟩ false rfl rfl s0 s1 s2) rfl ⟨rfl,((c.o.setCell nlr _).setCell nlr _).setCell nlr _⟩
theorem str_eq{l r:List UInt8}:((str l).toList==r)=decide (l=r):=by
 rw[Lib.toList_data];show (bts (str l)==r)=_;rw[AL,Bool.eq_iff_iff];simp
def prsV(o:Option Rat):Value:=match o with|some q=>nv q|none=>NoNum
def Kr(o:Option Rat):∃r x y,prsV o=.agg #[.bool r,.string x,.string y]:=by cases o<;>exact⟨_,_,_,rfl⟩
def Gh(s:ByteArray)(w:World)(J:s.size<=9223372036854775807)(I:Tab w):
  Calls prog 163 #[.string s] w λe w' =>
   e=.returned (.tuple #[prsV (prs s),.bool (prs s).isSome])/\Below w.heap.size w w':=by
 have j:(Al (bts s)).length<=s.size:=by
  unfold Al;split
  ·rw[List.length_tail,Aq];omega
  rw[Aq];omega
 have H:(upTo (Al (bts s))).length<=s.size:=Nat.le_trans (List.takeWhile_sublist _).length_le j;have G:(Bj (Al (bts s))).length<=s.size:=by
  unfold Bj;rw[List.length_tail];have:=(List.dropWhile_sublist (· != 47) (l:=Al (bts s))).length_le;omega
 have D:∀c,Below w.heap.size w c->Tab c:=λc h=>I.below h nlr;have g:str (denL (Al (bts s)))=if hasS (Al (bts s)) then str (if hasS (Al (bts s)) then Bj (Al (bts s)) else []) else ⟨#[49]⟩:=by
  unfold denL;cases hasS (Al (bts s))<;>rfl
 have i:(str (denL (Al (bts s)))).size<=9223372036854775807:=by
  rw[AH];unfold denL;split
  ·omega
  show 1<=_;omega
 have E:=VK s (str (Al (bts s))) (str (upTo (Al (bts s)))) (str (if hasS (Al (bts s)) then Bj (Al (bts s)) else [])) (str (denL (Al (bts s))))
  (str (dec (Nat.gcd (num (upTo (Al (bts s)))) (num (denL (Al (bts s))))))) (AP (bts s)) (hasS (Al (bts s))) (As (upTo (Al (bts s)))) (As (denL (Al (bts s)))) w
  g (by rw[AH];omega) i (λc _=>SI s c)
  (λc _=>by
   have:=SE (str (Al (bts s))) c (by rw[AH];omega);rw[AL]at this;exact this)
  (λc=>by
   have:=Co (str (upTo (Al (bts s)))) c (by rw[AH];unfold maxLen;omega);unfold vld at this;rw[AL]at this;exact this)
  (λc=>by
   have:=Co (str (denL (Al (bts s)))) c (by unfold maxLen;omega);unfold vld at this;rw[AL]at this;exact this)
  (λu z c h=>by
   have o:=BV u;have p:=BV z;have B:fits (num (upTo (Al (bts s)))):=by unfold fits;rw[o];exact(Bc u).2.1
   have C:fits (num (denL (Al (bts s)))):=by unfold fits;rw[p];exact(Bc z).2.1
   have:=NS _ _ c B C (D c h);rw[o,p]at this;exact this)
 refine E.mono ?_;rintro e w'⟨rfl,hb⟩;refine⟨?_,hb⟩;have k:okB (AP (bts s)) (hasS (Al (bts s))) (As (upTo (Al (bts s)))) (As (denL (Al (bts s)))) (str (upTo (Al (bts s)))) (str (denL (Al (bts s)))) (str (dec (Nat.gcd (num (upTo (Al (bts s)))) (num (denL (Al (bts s)))))))
   = okP (AP (bts s)) (upTo (Al (bts s))) (denL (Al (bts s))) (hasS (Al (bts s))):=by
  unfold okB okP;rw[str_eq,str_eq,str_eq,str_eq,AH,AH];have F:∀n,(decide (dec n=[49]))=decide (n=1):=λn=>by
   rw[decide_eq_decide];exact⟨λh=>Cy (h.trans Cd.symm),λh=>by rw[h,Cd]⟩
  rw[F];have hb:∀l r:List UInt8,(l==r)=decide (l=r):=λl r=>by rw[Bool.eq_iff_iff];simp
  simp only[hb]
 rw[k];cases A:okP (AP (bts s)) (upTo (Al (bts s))) (denL (Al (bts s))) (hasS (Al (bts s)))
 ·have d:prs s=none:=by unfold prs prsL;rw[A];rfl
  rw[d];rfl
 have d:prs s=some (mkRat (sg (AP (bts s)) (num (upTo (Al (bts s))))) (num (denL (Al (bts s))))):=by unfold prs prsL;rw[A];rfl
 have m:=(Kq d).2;rw[d];simp only[prsV,nv,m.sign,m.top,m.bot];rfl
end
end Go.Proofs.YtpldocnhbdlgfaaGreatDoor
