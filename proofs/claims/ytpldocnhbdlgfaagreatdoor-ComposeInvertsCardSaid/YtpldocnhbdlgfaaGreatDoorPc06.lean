/- Parts. -/
import Derived.Test.YtpldocnhbdlgfaaGreatDoorPc02
import Derived.BigQuiet
import Derived.Test.YtpldocnhbdlgfaaGreatDoorPc04
namespace Go.Proofs.YtpldocnhbdlgfaaGreatDoor
set_option maxRecDepth 100000
set_option linter.all false
set_option maxHeartbeats 16000000
open Go Tryz
section
open Go.RowKit
variable{m n:Nat}{c xs:List Nat}
def cmpN(m n:Nat):Int:=if m<n then -1 else if n<m then 1 else 0
def Co(h:m<n):cmpN m n=-1:=by unfold cmpN;rw[ifp h]
theorem CU(h:n<m):cmpN m n=1:=by unfold cmpN;rw[ifn (by omega),ifp h]
theorem DU(h:m=n):cmpN m n=0:=by unfold cmpN;rw[ifn (by omega),ifn (by omega)]
theorem Jm(x:Int)(w:World):Calls prog 258 #[.int .u64 x] w λe w'=>e=.returned (.bool false)/\w=w':=by
 have h:(x != x)=false:=by simp
 go_enter func258,ntmps258
 go_wp2;go_ret;exact⟨rfl,rfl⟩
def IM(x y:Nat)(w:World):Calls prog 244 #[.int .u64 (x:Int),.int .u64 (y:Int)] w λe w'=>e=.returned (.int .i64 (cmpN x y))/\w=w':=by
 rcases Nat.lt_trichotomy x y with h|h|h
 ·have c:=Co h;have d:=qh c;clear c
  go_enter func244,ntmps244
  go_wp2_with (go_at_call 258;refine(Jm _ _).mono ?_;rintro e w'⟨rfl,rfl⟩)
  go_ret;exact⟨BS d.o.symm,rfl⟩
 ·subst h;have c:=DU (rfl:x=x);have d:=qh c;clear c
  go_enter func244,ntmps244
  go_wp2_with (go_at_call 258;refine(Jm _ _).mono ?_;rintro e w'⟨rfl,rfl⟩)
  go_ret;exact⟨BS d.o.symm,rfl⟩
 have c:=CU h;have d:=qh c;clear c
 go_enter func244,ntmps244
 go_wp2_with (go_at_call 258;refine(Jm _ _).mono ?_;rintro e w'⟨rfl,rfl⟩)
 go_ret;exact⟨BS d.o.symm,rfl⟩
theorem FR(xs:List Nat)(k i:Nat):nth (xs.drop k) i=nth xs (k+i):=by simp[nth,List.getD_eq_getElem?_getD]
theorem LE(xs:List Nat)(j:Nat):bval xs=bval (xs.take j)+BB ^ j*nth xs j+BB ^ (j+1)*bval (xs.drop (j+1)):=by
 rw[<-Bu];by_cases h:j+1<=xs.length
 ·have:=EO (xs.take (j+1)) (xs.drop (j+1));rw[List.take_append_drop,List.length_take,Nat.min_eq_left h]at this;exact this
 rw[List.take_of_length_le (by omega),List.drop_of_length_le (by omega)];simp[bval]
theorem MP(k:xs.length=c.length)(h:∀j,j<xs.length->nth xs j=nth c j):xs=c:=by
 apply List.ext_getElem k
 intro i d g;have:=h i d;rw[CZ xs i d,CZ c i g]at this;exact this
def LC(l:Small xs)(k:xs.length=c.length)(j:Nat)(h:∀i,j<i->i<xs.length->nth xs i=nth c i)(d:nth xs j<nth c j):bval xs<bval c:=by
 rw[LE xs j,LE c j];have e:xs.drop (j+1)=c.drop (j+1):=MP (by simp[k]) (λi hi=>by
  rw[FR,FR];rw[List.length_drop]at hi;exact h _ (by omega) (by omega))
 rw[e];have m:bval (xs.take j)<BB ^ j:=Nat.lt_of_lt_of_le (Ca (EC l j)) (Nat.pow_le_pow_right AK (by rw[List.length_take];omega));have g:BB ^ j*(nth xs j+1)<=BB ^ j*nth c j:=Nat.mul_le_mul_left _ d;rw[Nat.mul_add]at g;omega
def MU(h:(toB m).length<(toB n).length):m<n:=by
 rcases Nat.lt_or_ge m n with c|c
 ·exact c
 have:=Eh c;omega
def CmpEnd(m n:Nat)(w:World)(e:Ending)(w':World):Prop:=e=.returned (.int .i64 (cmpN m n))/\Below w.heap.size w w'
def cmpint(x y:Nat)(w:World):Calls prog 243 #[.int .i64 (x:Int),.int .i64 (y:Int)] w λe w'=>e=.returned (.int .i64 (cmpN x y))/\w=w':=by
 refine(Tryz.cmp_Compare_int x y w).mono λe w' h=>⟨?_,h.2.symm⟩;rw[h.1]
 apply BS
 unfold Lib.compareInt cmpN
 repeat' split
 all_goals first|rfl|omega
def FA(X Y:Value)(m n:Nat)(w:World)(U:Sl w .u64 X (toB m))(W:Sl w .u64 Y (toB n)):
  Calls prog 225 #[X,Y] w (CmpEnd m n w):=by
 obtain⟨ax,cx,bx,ox,rfl,A,Q,G,L,c⟩:=U.open;obtain⟨ay,cy,K,oy,rfl,B,R,H,N,d⟩:=W.open;unfold maxLen at G H;clear U W;by_cases J:(toB m).length=(toB n).length
 ·have I:(((toB m).length:Int) != ((toB n).length:Int))=false:=by rw[J];simp
  go_enter func225,ntmps225
  have u:=qh J;clear J;go_wp2;clear I
  go_loopw [19] (λi wr=>∃k:Nat,k<=(toB m).length/\i=.int .i64 k/\(∀j,(toB m).length-1-k<j->j<(toB m).length->nth (toB m) j=nth (toB n) j)/\(k=(toB m).length->0<k->nth (toB m) 0=nth (toB n) 0)/\Below w.heap.size w wr) (λi _=>(toB m).length-(intOf i).toNat)
  case atStart=>exact⟨0,Nat.zero_le _,rfl,λj C D=>by omega,λ_ h=>absurd h (Nat.lt_irrefl _),blr⟩
  obtain⟨k,hk,rfl,g,o,hb⟩:=hrel;replace g:=qh g;replace o:=qh o;replace hb:=qh hb;by_cases a1:k<(toB m).length
  ·obtain rfl:=A (by omega);obtain rfl:=B (by have:=u.o;omega);have c1:=(hb.o.cell (p:=(Ad bx (ox+((toB m).length-1-k)))) (L (by omega))).trans (c ((toB m).length-1-k) (by omega));have c2:=(hb.o.cell (p:=(Ad K (oy+((toB m).length-1-k)))) (N (by have:=u.o;omega))).trans (d ((toB m).length-1-k) (by have:=u.o;omega));have S:(((toB m).length:Int)-1-(k:Int))<((toB n).length:Int):=by have:=u.o;omega
   have T:0<=(((toB m).length:Int)-1-(k:Int)):=by omega
   clear A B c d
   rcases Nat.lt_trichotomy (nth (toB m) ((toB m).length-1-k)) (nth (toB n) ((toB m).length-1-k)) with l|l|l
   ·have z:=Co l;have s:cmpN m n=-1:=Co (by
     have:=LC (AV m) u.o ((toB m).length-1-k) (λi C D=>g.o i C D) l
     rwa [AW,AW]at this)
    clear l;have E:=qh s;clear s;have F:=qh z;clear z
    go_wp2_with fail
    go_quiet ((go_at_call 244;exact Calls.quiet_of_same ((IM _ _ _).mono λe O h=>⟨by rw[h.1,F.o],h.2.symm⟩)))
    go_wp2;go_ret;exact⟨BS E.o.symm,below_drewN hb.o _⟩
   ·have z:=DU l;have P:=qh l;clear l;have F:=qh z;clear z
    go_wp2_with fail
    go_quiet ((go_at_call 244;exact Calls.quiet_of_same ((IM _ _ _).mono λe O h=>⟨by rw[h.1,F.o],h.2.symm⟩)))
    go_wp2;go_roundw
    case rel =>
     refine⟨k+1,by omega,by go_num,λj C D=>?_,λC _=>?_,below_drewN hb.o _⟩
     ·by_cases e:j=(toB m).length-1-k
      ·rw[e];exact P.o
      exact g.o j (by omega) D
     have:=P.o
     rwa [show (toB m).length-1-k=0 by omega]at this
    simp[intOf];omega
   have z:=CU l;have s:cmpN m n=1:=CU (by
    have:=LC (AV n) u.o.symm ((toB m).length-1-k) (λi C D=>(g.o i C (by rw[u.o];exact D)).symm) l
    rwa [AW,AW]at this)
   clear l;have E:=qh s;clear s;have F:=qh z;clear z
   go_wp2_with fail
   go_quiet ((go_at_call 244;exact Calls.quiet_of_same ((IM _ _ _).mono λe O h=>⟨by rw[h.1,F.o],h.2.symm⟩)))
   go_wp2;go_ret;exact⟨BS E.o.symm,below_drewN hb.o _⟩
  go_wp2;go_ret;have s:cmpN m n=0:=DU (by
   have e:toB m=toB n:=MP u.o (λj hj=>by
    by_cases Z:j=0
    ·subst Z;exact o.o (by omega) (by omega)
    exact g.o j (by omega) hj)
   rw[<-AW m,e,AW])
  exact⟨BS s.symm,hb.o⟩
 have I:(((toB m).length:Int) != ((toB n).length:Int))=true:=by rw[bne_iff_ne];omega
 have s:cmpN (toB m).length (toB n).length=cmpN m n:=by
  rcases Nat.lt_or_ge (toB m).length (toB n).length with h|h
  ·rw[Co h,Co (MU h)]
  rw[CU (show (toB n).length<(toB m).length by omega),CU (MU (by omega))]
 have E:=qh s;clear s;clear J A B c d
 go_enter func225,ntmps225
 go_wp2_with (go_at_call 243;refine(cmpint _ _ _).mono ?_;rintro e O⟨rfl,rfl⟩)
 go_ret;exact⟨BS E.o,blr⟩
def padj:Nat->Nat->List UInt8|0,_=>[] |j+1,b=>padj j (b / 10)++[UInt8.ofNat (48+b % 10)]
theorem RO(j:Nat):∀(n b:Nat),1<=n->b<10 ^ j->dec (n*10 ^ j+b)=dec n++padj j b:=by
 induction j with
 |zero=>intro n b _ hb;simp at hb;subst hb;simp[padj]
 |succ j ih =>
  intro n b c hb;have h:10<=n*10 ^ (j+1)+b:=by
   have:1*10 ^ (j+1)<=n*10 ^ (j+1):=Nat.mul_le_mul_right _ c;have:1<=10 ^ j:=Nat.pow_pos (by omega);rw[Nat.pow_succ]at *;omega
  rw[Eo (by omega)];have d:(n*10 ^ (j+1)+b) / 10=n*10 ^ j+b / 10:=by rw[Nat.pow_succ,<-Nat.mul_assoc];omega
  have g:(n*10 ^ (j+1)+b) % 10=b % 10:=by rw[Nat.pow_succ,<-Nat.mul_assoc];omega
  rw[d,g,ih n (b / 10) c (by rw[Nat.pow_succ]at hb;omega)];simp[padj]
theorem UY(j:Nat):padj j 0=List.replicate j 48:=by
 induction j with
 |zero=>rfl
 |succ j ih=>simp only[padj,Nat.zero_div,Nat.zero_mod,ih];rw[List.replicate_succ'];rfl
def UX(j:Nat):∀b,1<=j->b<10 ^ j->padj j b=List.replicate (j-(dec b).length) 48++dec b:=by
 induction j with
 |zero=>intro b h;omega
 |succ j ih =>
  intro b _ hb;by_cases h:b<10
  ·simp only[padj];rw[Bv h,Nat.div_eq_of_lt h,UY,Nat.mod_eq_of_lt h];simp
  have d:1<=j:=by
   rcases Nat.eq_zero_or_pos j with c|c
   ·subst c;simp at hb;omega
   exact c
  simp only[padj];rw[ih (b / 10) d (by rw[Nat.pow_succ]at hb;omega),Eo h];simp
def RH{n b:Nat}(hn:1<=n)(hb:b<BB):dec (b+BB*n)=dec n++(List.replicate (9-(dec b).length) 48++dec b):=by
 rw[An]at *;have h:b+1000000000*n=n*10 ^ 9+b:=by omega
 rw[h,RO 9 n b hn (by omega),UX 9 b (by omega) (by omega)]
theorem RL{b:Nat}(hb:b<BB):(dec b).length<=9:=by rw[An]at hb;exact BJ.2 ⟨by omega,by omega⟩
noncomputable def topB(n k:Nat):List UInt8:=if k=0 then [] else dec (bval ((toB n).drop ((toB n).length-k)))
theorem Pp(n:Nat):topB n 0=[]:=rfl
def IX(xs:List Nat)(k:Nat)(c:k<xs.length):bval (xs.drop (xs.length-(k+1)))=nth xs (xs.length-1-k)+BB*bval (xs.drop (xs.length-k)):=by
 rw[List.drop_eq_getElem_cons (by omega),show xs.length-(k+1)+1=xs.length-k by omega];simp only[bval];rw[CZ xs _ (by omega)]
 congr 2
 omega
def XH(n:Nat)(h:n≠0):topB n 1=dec (nth (toB n) ((toB n).length-1)):=by
 have:=Ei h;unfold topB;rw[ifn (by omega),IX (toB n) 0 (by omega),Nat.sub_zero,Nat.sub_zero,List.drop_length];simp[bval]
theorem XI(n:Nat)(h:n≠0)(k:Nat)(g:1<=k)(d:k<=(toB n).length):1<=bval ((toB n).drop ((toB n).length-k)):=by
 induction k with
 |zero=>omega
 |succ k ih =>
  rw[IX (toB n) k d]
  rcases Nat.eq_zero_or_pos k with c|c
  ·subst c;rw[Nat.sub_zero];have:=Ii h;omega
  have:=ih c (by omega);have:BB*1<=BB*bval ((toB n).drop ((toB n).length-k)):=Nat.mul_le_mul_left _ this;have:=AK;omega
def XJ(n:Nat)(h:n≠0)(k:Nat)(c:1<=k)(d:k<(toB n).length):
  topB n (k+1)=topB n k++(List.replicate (9-(dec (nth (toB n) ((toB n).length-1-k))).length) 48++dec (nth (toB n) ((toB n).length-1-k))):=by
 unfold topB;rw[ifn (by omega),ifn (by omega),IX (toB n) k d,RH (XI n h k c (by omega)) (AV n _)]
theorem Pn(n:Nat)(h:n≠0):topB n (toB n).length=dec n:=by
 have:=Ei h;unfold topB;rw[ifn (by omega),Nat.sub_self,List.drop_zero,AW]
theorem Po(n k:Nat):(topB n k).length<=9*k:=by
 unfold topB
 split
 ·simp
 have c:Small ((toB n).drop ((toB n).length-k)):=λi=>by rw[FR];exact AV n _
 have d:=Ca c;refine BJ.2 ⟨Nat.lt_of_lt_of_le d ?_,by omega⟩;rw[pow9];exact Nat.pow_le_pow_right AK (by rw[List.length_drop];omega)
variable{B b:Nat}{w w':World}
abbrev TB:TypeId:=233
abbrev TU8:TypeId:=5
def Lz{l:Nat}{p:Value}{m:List Value}(h:Lib.BuilderAt TB TU8 B b p m w)(hb:Below l w w')(C:w.heap.size<=l):Lib.BuilderAt TB TU8 B b p m w':=by
 obtain⟨s,v,o,c,k⟩:=h;have z:=(Array.getElem?_eq_some_iff.1 o).1;refine⟨s,v,by rw[hb.block b (by omega)];exact o,⟨c.1,?_⟩,k⟩
 rcases c.2 with A|⟨g,j,cur,rfl,u,d,i⟩
 ·exact .inl A
 have:=(Array.getElem?_eq_some_iff.1 d).1;exact .inr ⟨g,j,cur,rfl,u,by rw[hb.block g (by omega)];exact d,i⟩
def Jl{c:Nat}{d:List Value}(h:Lib.IsBuilder TB TU8 B b d w)(hb:Below c w w')(g:w.heap.size<=c):Lib.IsBuilder TB TU8 B b d w':=by
 rcases h with h|h
 ·exact .inl (Lz h hb g)
 exact .inr<|Lz h hb g
theorem byteCells_append(l r:List UInt8):Lib.byteCells l++Lib.byteCells r=Lib.byteCells (l++r):=by simp[Lib.byteCells]
theorem Ia(l:List UInt8):Lib.strCells (str l)=Lib.byteCells l:=by simp[Lib.strCells,Lib.byteCells,str]
def TextEnd(n:Nat)(w:World)(e:Ending)(w':World):Prop:=e=.returned (.string (str (dec n)))/\Below w.heap.size w w'
def Xt(g:Value)(w:World)(d:Sl w .u64 g (toB 0)):Calls prog 223 #[g] w (TextEnd 0 w):=by
 obtain⟨h,i,rfl⟩:=d.shape;have c:(toB 0).length=0:=rfl;rw[c];clear c d
 go_enter func223,ntmps223
 go_wp2;go_ret;exact⟨Do (by rw[Bv (by omega)];rfl),blr⟩
def Ta(w:World):Lib.IsBuilder TB TU8 w.heap.size w.heap.size (Lib.byteCells []) (w.alloc (.cells #[.pointer none,.slice none 0 0] TB)) :=
 .inl ⟨nlr,.slice none 0 0,Go.heap_alloc_new w _,World.ownsRow_nil _ _ _ _,by simp[Value.ownBlock]⟩
theorem rep48(c:Nat):(⟨(Lib.repeatL (⟨#[48]⟩:ByteArray).data.toList c).toArray⟩:ByteArray)=str (List.replicate c 48):=by
 have:=Lib.repeatL_replicate 48 1 c;simp at this;show str (Lib.repeatL [48] c)=_;rw[this]
theorem Xs(vx:Value)(n:Nat)(J:n≠0)(w:World)(K:Sl w .u64 vx (toB n))(lx:(toB n).length<=100000)(Y:Tab w):Calls prog 223 #[vx] w (TextEnd n w):=by
 obtain⟨ax,cx,bx,ox,rfl,L,a1,P,N,l⟩:=K.open;have hl:=Ei J;obtain rfl:=L hl;have O:=N hl;have X:(((toB n).length:Int)==0)=false:=by rw[beq_eq_false_iff_ne];omega
 replace Y:=qh Y;replace J:=qh J;unfold maxLen at P;clear K L N
 go_enter func223,ntmps223
 go_wp2;clear X
 go_loopw [11] (λi wr=>∃k:Nat,k<=(toB n).length/\i=.int .i64 k/\Lib.IsBuilder TB TU8 w.heap.size w.heap.size (Lib.byteCells (topB n k)) wr/\Below w.heap.size w wr) (λi _=>(toB n).length-(intOf i).toNat)
 case atStart=>exact⟨0,Nat.zero_le _,rfl,Ta w,blr.alloc nlr _⟩
 obtain⟨k,hk,rfl,d,hb⟩:=hrel;replace d:=qh d;replace hb:=qh hb;have I:=hb.o.size;by_cases W:k<(toB n).length
 ·have c1:=(hb.o.cell (p:=(Ad bx (ox+((toB n).length-1-k)))) O).trans (l ((toB n).length-1-k) (by omega));have B:=AV n ((toB n).length-1-k);have G:=RL B;have F:=ES<|nth (toB n) ((toB n).length-1-k);have R:0<=(((toB n).length:Int)-1-(k:Int)):=by omega
  obtain⟨x,K⟩:=exq<|nth (toB n) ((toB n).length-1-k);rw[<-K]at c1 B G F;have A:=SX x (by rw[An]at B;omega) wr (Y.o.below hb.o nlr);replace A:=qh A;have a8:=Po n k;have a2:(str (dec x)).size<=9:=by rw[AF];exact G
  have a4:1<=(str (dec x)).size:=by rw[AF];exact F
  have Z:=qh K;clear K;clear l B F G;by_cases Q:k=0
  ·subst Q;rw[Nat.sub_zero]at c1;clear R
   go_wp2_with fail
   refine A.o.mono ?_;rintro e U⟨rfl,c⟩;have s:=Jl d.o c nlr;have C:=qh s;clear s;have g:=qh c;clear c;have S:=g.o.size
   go_wp2_with fail
   refine(Tryz.Builder_WriteString w.heap.size w.heap.size _ (str (dec x)) U C.o (by rw[Pp];simp[Lib.byteCells];omega) (by omega)).mono ?_;rintro e w2⟨rfl,o,m⟩;have D:=qh o;clear o;have u:=qh m;clear m;go_wp2;go_roundw
   case rel =>
    refine⟨1,by omega,rfl,.inr ?_,hb.o.trans ((g.o.mono I).trans u.o)⟩;have:=D.o;rw[Pp,Ia,byteCells_append,Z.o,Nat.sub_zero,List.nil_append]at this;rw[XH n J.o];exact this
   simp[intOf];omega
  have a7:0<k:=by omega
  clear Q
  go_wp2_with fail
  refine A.o.mono ?_;rintro e U⟨rfl,c⟩;have s:=Jl d.o c nlr;have C:=qh s;clear s;have g:=qh c;clear c;have S:=g.o.size
  go_wp2_with fail
  have e9:(9-((str (dec x)).size:Int))=((9-(str (dec x)).size:Nat):Int):=by omega
  rw[e9];clear e9;refine(Tryz.strings_Repeat ⟨#[48]⟩ (9-(str (dec x)).size) U (by omega) (by show 1*(9-(str (dec x)).size)<=140737488355328;omega)).mono ?_;rintro e w2⟨rfl,m⟩;rw[rep48];have T:=Jl C.o m nlr;have D:=qh T;clear T;have u:=qh m;clear m;have a5:=u.o.size
  go_wp2_with fail
  refine(Tryz.Builder_WriteString w.heap.size w.heap.size _ (str (List.replicate (9-(str (dec x)).size) 48)) w2 D.o (by rw[Lib.byteCells_length,AF,List.length_replicate];omega) (by omega)).mono ?_;rintro e w3⟨rfl,h,z⟩;replace h:=qh h;replace z:=qh z;have a6:=z.o.size
  go_wp2_with fail
  refine(Tryz.Builder_WriteString w.heap.size w.heap.size _ (str (dec x)) w3 (.inr h.o) (by rw[List.length_append,Lib.byteCells_length,Ia,Lib.byteCells_length,List.length_replicate];omega) (by omega)).mono ?_;rintro e w4⟨rfl,j,E⟩;replace j:=qh j;replace E:=qh E;go_wp2;go_roundw
  case rel =>
   refine⟨k+1,by omega,by go_num,.inr ?_,hb.o.trans ((g.o.mono I).trans ((u.o.mono (by omega)).trans (z.o.trans E.o)))⟩;have:=j.o;rw[Ia,Ia,byteCells_append,byteCells_append,AF,List.append_assoc,Z.o]at this;rw[XJ n J.o k (by omega) W];exact this
  simp[intOf];omega
 go_wp2_with fail
 have H:k=(toB n).length:=by omega
 refine(Tryz.Builder_String_any w.heap.size w.heap.size (topB n k) wr d.o I).mono ?_;rintro e U⟨rfl,c⟩;replace H:=qh H;have g:=qh c;clear c;go_wp2;go_ret;exact⟨Do (by rw[H.o,Pn n J.o];rfl),hb.o.trans g.o⟩
def Gm(c:Value)(n:Nat)(w:World)(g:Sl w .u64 c (toB n))(i:(toB n).length<=100000)(h:Tab w):Calls prog 223 #[c] w (TextEnd n w):=by
 by_cases d:n=0
 ·subst d;exact Xt c w g
 exact Xs c n d w g i h
variable{s:ByteArray}
def PairEnd(r:ByteArray × Nat)(w:World)(e:Ending)(w':World):Prop:=e=.returned (.tuple #[.string r.1,.int .i64 (r.2:Int)])/\Below w.heap.size w w'
def limS(n:Nat):ByteArray × Nat:=if (dec n).length<=1000 then (str (dec n),0) else (str [],2)
def vld(s:ByteArray):Bool:=Aq<|bts s
def val(s:ByteArray):Nat:=num<|bts s
def addF(s t:ByteArray):ByteArray × Nat:=if vld s&&vld t then limS (val s+val t) else (str [],1)
def subF(s t:ByteArray):ByteArray × Nat:=if vld s&&vld t then (if val s<val t then (str [],4) else (str (dec (val s-val t)),0)) else (str [],1)
def mulF(s t:ByteArray):ByteArray × Nat:=if vld s&&vld t then limS (val s*val t) else (str [],1)
def cmpF(s t:ByteArray):Int:=if vld s&&vld t then cmpN (val s) (val t) else 0
def Hu{c:ByteArray}{a b:Int}(h:s=c)(d:a=b):Ending.returned (.tuple #[.string s,.int .i64 a])=.returned (.tuple #[.string c,.int .i64 b]):=by rw[h,d]
theorem BH(h:vld s=true):1<=s.size/\s.size<=1000:=by
 obtain⟨c,d,_⟩:=Ba h;rw[Ao]at c d;exact⟨c,d⟩
def PN(h:vld s=true):dgts (bts s)=true:=(Ba h).2.2.2
def UI{l:List UInt8}(h:dgts l=true)(k:Nat)(d:l.length<=9*k):num l<BB ^ k:=by
 have c:10 ^ l.length<=10 ^ (9*k):=Nat.pow_le_pow_right (by omega) d;rw[pow9]at c;exact Nat.lt_of_lt_of_le (JF _ h) c
def KO(h:vld s=true):val s<BB ^ 112:=UI (PN h) 112 (by rw[Ao];have:=BH h;omega)
def CP(h:vld s=true):(toB (val s)).length<=112:=Gn<|KO h
def Cm(s:ByteArray)(w:World)(c:s.size<=maxLen):
  Calls prog 196 #[.string s] w λe w'=>e=.returned (.bool (vld s))/\w=w':=Yd s w c
def Cv(s:ByteArray)(w:World)(h:vld s=true):Calls prog 201 #[.string s] w (BlocksEnd (val s) w):=QO s w (BH h).2 (PN h)
def MO(j:Value)(n:Nat)(w:World)(o:Sl w .u64 j (toB n))(p:(toB n).length<=100000)(m:Tab w):
  Calls prog 202 #[j] w (PairEnd (limS n) w):=by
 have c:=Po n (toB n).length;have l:(dec n).length<=900000\/n=0:=by
  by_cases k:n=0
  ·exact .inr k
  rw[Pn n k]at c;exact .inl (by omega)
 have d:(dec n).length<=900000:=by
  rcases l with h|h
  ·exact h
  subst h;rw[Bv (by omega)];simp
 clear c l;have u:(str (dec n)).size<=900000:=by rw[AF];exact d
 have g:=Gm j n w o p m;replace g:=qh g;clear o m p;by_cases h:(dec n).length<=1000;have i:limS n=(str (dec n),0):=by unfold limS;rw[ifp h]
 have s:(str (dec n)).size<=1000:=by rw[AF];exact h
 rotate_left
 have i:limS n=(str [],2):=by unfold limS;rw[ifn h]
 have s:1000<(str (dec n)).size:=by rw[AF];omega
 all_goals
  rw[i];clear i h d
  go_enter func202,ntmps202
  go_wp2_with fail
  refine g.o.mono ?_;rintro e z⟨rfl,hb⟩;replace hb:=qh hb;go_wp2;go_ret2;exact⟨rfl,hb.o⟩
def Qq(s t:ByteArray)(w:World)(K:s.size<=maxLen)(L:t.size<=maxLen)(l:Tab w):
  Calls prog 198 #[.string s,.string t] w (PairEnd (addF s t) w):=by
 have D:=qh l;clear l;have c1:=Cm s w K;have c2:=Cm t w L;clear K L;cases c:vld s with
 |false =>
  have k:addF s t=(str [],1):=by unfold addF;rw[c];rfl
  rw[k];rw[c]at c1;clear k c c2 D;have z:=qh c1;clear c1
  go_enter func198,ntmps198
  go_wp2_with fail
  refine z.o.mono ?_;rintro e A⟨rfl,rfl⟩;go_wp2;go_ret2;exact⟨rfl,blr⟩
 |true =>
  cases h:vld t with
  |false =>
   have k:addF s t=(str [],1):=by unfold addF;rw[c,h];rfl
   rw[k];rw[c]at c1;rw[h]at c2;clear k c h D;have z:=qh c1;clear c1;have B:=qh c2;clear c2
   go_enter func198,ntmps198
   go_wp2_with fail
   refine z.o.mono ?_;rintro e A⟨rfl,rfl⟩
   go_wp2_with fail
   refine B.o.mono ?_;rintro e A⟨rfl,rfl⟩;go_wp2;go_ret2;exact⟨rfl,blr⟩
  |true =>
   rw[c]at c1;rw[h]at c2;have z:=qh c1;clear c1;have B:=qh c2;clear c2;have U:=CP c;have W:=CP h;have E:=Cv s w c;replace E:=qh E;have F:=λw=>Cv t w h;replace F:=qh F;have H:=qh c;clear c;have I:=qh h;clear h;have k:addF s t=limS (val s+val t):=by unfold addF;rw[H.o,I.o];rfl
   rw[k];clear k
   go_enter func198,ntmps198
   go_wp2_with fail
   refine z.o.mono ?_;rintro e A⟨rfl,rfl⟩
   go_wp2_with fail
   refine B.o.mono ?_;rintro e A⟨rfl,rfl⟩
   go_wp2_with fail
   refine E.o.mono ?_;rintro e R⟨v1,rfl,o,i⟩;replace o:=qh o;replace i:=qh i;have G:=i.o.size
   go_wp2_with fail
   refine(F.o R).mono ?_;rintro e S⟨P,rfl,p,d⟩;replace p:=qh p;replace d:=qh d;have N:=d.o.size;have C:=qh<|o.o.sl.below d.o nlr
   go_wp2_with fail
   refine(Vq v1 P (val s) (val t) S C.o p.o.sl (by omega) (by omega)).mono ?_;rintro e T⟨Q,rfl,u,j⟩;replace u:=qh u;replace j:=qh j;have J:=qh<|i.o.trans ((d.o.mono G).trans (j.o.mono (by omega)));have g:=MO Q (val s+val t) T u.o.sl (by
    have c:=KO H.o;have h:=KO I.o;have:val s+val t<BB ^ 113:=by
     have e:BB ^ 113=BB ^ 112*BB:=Nat.pow_succ ..;rw[e];have:BB ^ 112*2<=BB ^ 112*BB:=Nat.mul_le_mul_left _ EK;omega
    have:=Gn this;omega) (D.o.below J.o nlr)
   replace g:=qh g
   go_wp2_with fail
   refine g.o.mono ?_;rintro e X⟨rfl,m⟩;replace m:=qh m;have O:=j.o.size;go_wp2;go_ret2;exact⟨rfl,J.o.trans (m.o.mono (by omega))⟩
def Xb(s t:ByteArray)(w:World)(hs:s.size<=maxLen)(ht:t.size<=maxLen)(E:Tab w):
  Calls prog 200 #[.string s,.string t] w (PairEnd (subF s t) w):=by
 have X:=qh E;clear E;have c1:=Cm s w hs;have c2:=Cm t w ht;clear hs ht;cases i:vld s with
 |false =>
  have z:subF s t=(str [],1):=by unfold subF;rw[i];rfl
  rw[z];rw[i]at c1;clear z i c2 X;have O:=qh c1;clear c1
  go_enter func200,ntmps200
  go_wp2_with fail
  refine O.o.mono ?_;rintro e P⟨rfl,rfl⟩;go_wp2;go_ret2;exact⟨rfl,blr⟩
 |true =>
  cases A:vld t with
  |false =>
   have z:subF s t=(str [],1):=by unfold subF;rw[i,A];rfl
   rw[z];rw[i]at c1;rw[A]at c2;clear z i A X;have O:=qh c1;clear c1;have R:=qh c2;clear c2
   go_enter func200,ntmps200
   go_wp2_with fail
   refine O.o.mono ?_;rintro e P⟨rfl,rfl⟩
   go_wp2_with fail
   refine R.o.mono ?_;rintro e P⟨rfl,rfl⟩;go_wp2;go_ret2;exact⟨rfl,blr⟩
  |true =>
   rw[i]at c1;rw[A]at c2;have O:=qh c1;clear c1;have R:=qh c2;clear c2;have lm:=CP i;have ln:=CP A;have S:=Cv s w i;replace S:=qh S;have T:=λw=>Cv t w A;replace T:=qh T;replace i:=qh i;replace A:=qh A;by_cases o:val s<val t
   ·have z:subF s t=(str [],4):=by unfold subF;rw[i.o,A.o,ifp o];rfl
    have Q:cmpN (val s) (val t)=-1:=Co o;rw[z];clear z o;have W:=qh Q;clear Q
    go_enter func200,ntmps200
    go_wp2_with fail
    refine O.o.mono ?_;rintro e P⟨rfl,rfl⟩
    go_wp2_with fail
    refine R.o.mono ?_;rintro e P⟨rfl,rfl⟩
    go_wp2_with fail
    refine S.o.mono ?_;rintro e w1⟨v1,rfl,p,k⟩;have G:=qh p;clear p;have j:=qh k;clear k;have N:=j.o.size
    go_wp2_with fail
    refine(T.o w1).mono ?_;rintro e w2⟨U,rfl,u,l⟩;have B:=qh u;clear u;have d:=qh l;clear l;have Z:=d.o.size;have C:=qh<|G.o.sl.below d.o nlr;have c:=FA v1 U (val s) (val t) w2 C.o B.o.sl;unfold CmpEnd at c;rw[W.o]at c;have F:=qh c;clear c
    go_wp2_with fail
    refine F.o.mono ?_;rintro e w3⟨rfl,m⟩;have g:=qh m;clear m;go_wp2;go_ret2;exact⟨rfl,j.o.trans ((d.o.mono N).trans (g.o.mono (by omega)))⟩
   have z:subF s t=(str (dec (val s-val t)),0):=by unfold subF;rw[i.o,A.o,ifn o];rfl
   have Q:cmpN (val s) (val t)=0\/cmpN (val s) (val t)=1:=by
    rcases Nat.lt_or_ge (val t) (val s) with h|h
    ·exact .inr (CU h)
    exact .inl (DU (by omega))
   have I:val t<=val s:=by omega
   replace I:=qh I;rw[z];clear z o;have Y:∃q:Int,cmpN (val s) (val t)=q/\0<=q:=by
    rcases Q with h|h
    ·exact⟨0,h,by omega⟩
    exact⟨1,h,by omega⟩
   obtain⟨q,hq,a1⟩:=Y;clear Q;have W:=qh hq;clear hq
   go_enter func200,ntmps200
   go_wp2_with fail
   refine O.o.mono ?_;rintro e P⟨rfl,rfl⟩
   go_wp2_with fail
   refine R.o.mono ?_;rintro e P⟨rfl,rfl⟩
   go_wp2_with fail
   refine S.o.mono ?_;rintro e w1⟨v1,rfl,p,k⟩;have G:=qh p;clear p;have j:=qh k;clear k;have N:=j.o.size
   go_wp2_with fail
   refine(T.o w1).mono ?_;rintro e w2⟨U,rfl,u,l⟩;have B:=qh u;clear u;have d:=qh l;clear l;have Z:=d.o.size;have C:=qh<|G.o.sl.below d.o nlr;have c:=FA v1 U (val s) (val t) w2 C.o B.o.sl;unfold CmpEnd at c;rw[W.o]at c;have F:=qh c;clear c
   go_wp2_with fail
   refine F.o.mono ?_;rintro e w3⟨rfl,m⟩;have g:=qh m;clear m;have a2:=g.o.size;have J:=Ub v1 U (val s) (val t) w3 (C.o.below g.o nlr) (B.o.sl.below g.o nlr) (by omega) (by omega) I.o;replace J:=qh J
   go_wp2_with fail
   refine J.o.mono ?_;rintro e w4⟨v4,rfl,K,D⟩;replace K:=qh K;replace D:=qh D;have a4:=D.o.size;have HB:=qh<|j.o.trans ((d.o.mono N).trans ((g.o.mono (by omega)).trans (D.o.mono (by omega))));have L:=Gm v4 (val s-val t) w4 K.o.sl (by have:=Eh<|Nat.sub_le (val s) (val t);omega) (X.o.below HB.o nlr);replace L:=qh L
   go_wp2_with fail
   refine L.o.mono ?_;rintro e w5⟨rfl,H⟩;replace H:=qh H;go_wp2;go_ret2;exact⟨rfl,HB.o.trans (H.o.mono (by omega))⟩
def IntEnd(q:Int)(w:World)(e:Ending)(w':World):Prop:=e=.returned (.int .i64 q)/\Below w.heap.size w w'
def Rt(s t:ByteArray)(w:World)(D:s.size<=maxLen)(E:t.size<=maxLen):
  Calls prog 199 #[.string s,.string t] w (IntEnd (cmpF s t) w):=by
 have c1:=Cm s w D;have c2:=Cm t w E;clear D E;cases c:vld s with
 |false =>
  have j:cmpF s t=0:=by unfold cmpF;rw[c];rfl
  rw[j];rw[c]at c1;clear j c c2;have o:=qh c1;clear c1
  go_enter func199,ntmps199
  go_wp2_with fail
  refine o.o.mono ?_;rintro e p⟨rfl,rfl⟩;go_wp2;go_ret;exact⟨rfl,blr⟩
 |true =>
  cases g:vld t with
  |false =>
   have j:cmpF s t=0:=by unfold cmpF;rw[c,g];rfl
   rw[j];rw[c]at c1;rw[g]at c2;clear j c g;have o:=qh c1;clear c1;have u:=qh c2;clear c2
   go_enter func199,ntmps199
   go_wp2_with fail
   refine o.o.mono ?_;rintro e p⟨rfl,rfl⟩
   go_wp2_with fail
   refine u.o.mono ?_;rintro e p⟨rfl,rfl⟩;go_wp2;go_ret;exact⟨rfl,blr⟩
  |true =>
   rw[c]at c1;rw[g]at c2;have o:=qh c1;clear c1;have u:=qh c2;clear c2;have J:=CP c;have K:=CP g;have A:=Cv s w c;replace A:=qh A;have B:=λw=>Cv t w g;replace B:=qh B;replace c:=qh c;replace g:=qh g;have j:cmpF s t=cmpN (val s) (val t):=by unfold cmpF;rw[c.o,g.o];rfl
   rw[j];clear j
   go_enter func199,ntmps199
   go_wp2_with fail
   refine o.o.mono ?_;rintro e p⟨rfl,rfl⟩
   go_wp2_with fail
   refine u.o.mono ?_;rintro e p⟨rfl,rfl⟩
   go_wp2_with fail
   refine A.o.mono ?_;rintro e H⟨v1,rfl,l,h⟩;replace l:=qh l;replace h:=qh h;have C:=h.o.size
   go_wp2_with fail
   refine(B.o H).mono ?_;rintro e I⟨G,rfl,m,d⟩;replace m:=qh m;replace d:=qh d;have F:=d.o.size;have z:=qh<|l.o.sl.below d.o nlr;have i:=FA v1 G (val s) (val t) I z.o m.o.sl;unfold CmpEnd at i;replace i:=qh i
   go_wp2_with fail
   refine i.o.mono ?_;rintro e L⟨rfl,k⟩;replace k:=qh k;go_wp2;go_ret;exact⟨rfl,h.o.trans ((d.o.mono C).trans (k.o.mono (by omega)))⟩
variable{L d:List Nat}{c cap g i:Nat}{e:TypeId}{k:IntKind}
def Fh(L:List Nat)(j v i:Nat)(h:j<L.length):nth (L.set j v) i=if i=j then v else nth L i:=by
 unfold nth;simp only[List.getD_eq_getElem?_getD,List.getElem?_set];by_cases e:j=i
 ·subst e;simp[h]
 rw[ifn e,ifn (λc=>e c.symm)]
theorem Gi(h:Small L)(j v:Nat)(d:v<BB):Small (L.set j v):=λi=>by
 by_cases c:j<L.length
 ·rw[Fh L j v i c];split
  ·exact d
  exact h i
 rw[List.set_eq_of_length_le (by omega)];exact h i
def QW(L:List Nat):∀(j v:Nat),j<L.length->bval (L.set j v)+BB ^ j*nth L j=bval L+BB ^ j*v:=by
 induction L with
 |nil=>intro j v h;simp at h
 |cons x L ih =>
  intro j v h;cases j with
  |zero=>simp only[List.set_cons_zero,bval,JB,Nat.pow_zero];omega
  |succ j =>
   have:=ih j v (by simpa using h);simp only[List.set_cons_succ,bval,Hf,Nat.pow_succ];have e:BB*(bval (L.set j v)+BB ^ j*nth L j)=BB*(bval L+BB ^ j*v):=by rw[this]
   rw[Nat.mul_add,Nat.mul_add,<-Nat.mul_assoc,<-Nat.mul_assoc,Nat.mul_comm BB (BB ^ j)]at e;omega
theorem QV(k:Nat):bval (List.replicate k 0)=0:=LH (λi=>by unfold nth;simp[List.getD_eq_getElem?_getD,List.getElem?_replicate];split<;>rfl)
def OL(k:Nat):Small (List.replicate k 0):=λi=>by
 have:nth (List.replicate k 0) i=0:=by unfold nth;simp[List.getD_eq_getElem?_getD,List.getElem?_replicate];split<;>rfl
 rw[this];exact AK
structure MulIn(xs ys L:List Nat)(i k c:Nat):Prop where
 small:Small L
 carry:c<BB
 len:L.length=xs.length+ys.length+1
 val:bval L+BB ^ (i+k)*c=bval (xs.take i)*bval ys+BB ^ i*(nth xs i*bval (ys.take k))
structure MulOut(xs ys L:List Nat)(i:Nat):Prop where
 small:Small L
 len:L.length=xs.length+ys.length+1
 val:bval L=bval (xs.take i)*bval ys
theorem MulOut.start(xs c:List Nat):MulOut xs c (List.replicate (xs.length+c.length+1) 0) 0 :=
 ⟨OL _,by simp,by rw[QV];simp[bval]⟩
def MulOut.inner{c:List Nat}(h:MulOut xs c L i):MulIn xs c L i 0 0 :=
 ⟨h.small,AK,h.len,by rw[h.val];simp[bval]⟩
def Jy{l x y:Nat}(d:l<BB)(g:c<BB)(h:x<BB)(i:y<BB):l+c+x*y<1000000000*1000000000:=by
 rw[An]at *;have:x*y<=999999999*999999999:=Nat.mul_le_mul (by omega) (by omega);omega
def MulIn.step{k:Nat}(h:MulIn xs d L i k c)(u:Small xs)(z:Small d)(hi:i<xs.length)(A:k<d.length+1):
  MulIn xs d (L.set (i+k) ((nth L (i+k)+c+nth xs i*nth d k) % 1000000000)) i (k+1) ((nth L (i+k)+c+nth xs i*nth d k) / 1000000000):=by
 have hb:=Jy (h.small (i+k)) h.carry (u i) (z k);have g:i+k<L.length:=by rw[h.len];omega
 have l:=QW L (i+k) ((nth L (i+k)+c+nth xs i*nth d k) % 1000000000) g;have m:=h.val;have j:=Bu d k;generalize hp:nth L (i+k)+c+nth xs i*nth d k=p at *;have o:BB ^ (i+k)*nth L (i+k)+BB ^ (i+k)*c+BB ^ (i+k)*(nth xs i*nth d k)=BB ^ (i+k)*p:=by rw[<-hp,Nat.mul_add,Nat.mul_add]
 have s:BB ^ (i+k)*p=BB ^ (i+k)*(p % 1000000000)+BB ^ (i+k)*BB*(p / 1000000000):=by
  rw[Nat.mul_assoc,<-Nat.mul_add,An,Nat.mod_add_div]
 refine⟨Gi h.small _ _ (by rw[An];exact Nat.mod_lt _ (by omega)),by rw[An];omega,by simp[h.len],?_⟩;rw[j,Nat.mul_add,Nat.mul_add,show i+(k+1)=i+k+1 by omega,Nat.pow_succ BB (i+k)];have e:BB ^ i*(nth xs i*(BB ^ k*nth d k))=BB ^ (i+k)*(nth xs i*nth d k):=by
  rw[Nat.pow_add,Nat.mul_left_comm (nth xs i),Nat.mul_assoc]
 rw[e];omega
def MulIn.done(h:MulIn xs d L i (d.length+1) c)(m:Small xs)(o:Small d)(hi:i<xs.length):MulOut xs d L (i+1):=by
 refine⟨h.small,h.len,?_⟩;have g:=h.val;rw[Cl (by omega:d.length<=d.length+1)]at g;have e:bval (xs.take i)*bval d+BB ^ i*(nth xs i*bval d)=bval (xs.take (i+1))*bval d:=by
  rw[Bu,Nat.add_mul,Nat.mul_assoc]
 rw[e]at g;have k:bval (xs.take (i+1))<BB ^ (i+1):=by
  have:=Ca<|EC m (i+1);rw[List.length_take,Nat.min_eq_left (by omega)]at this;exact this
 have p:=Ca o;have l:bval (xs.take (i+1))*bval d<BB ^ (i+1)*BB ^ d.length:=by
  have s:bval (xs.take (i+1))*bval d<=bval (xs.take (i+1))*BB ^ d.length:=Nat.mul_le_mul_left _ (by omega);have u:bval (xs.take (i+1))*BB ^ d.length<BB ^ (i+1)*BB ^ d.length:=Nat.mul_lt_mul_of_pos_right k (Nat.pow_pos AK);omega
 rw[<-Nat.pow_add,show i+1+d.length=i+(d.length+1) by omega]at l
 rcases Nat.eq_zero_or_pos c with j|j
 ·subst j;rw[Nat.mul_zero,Nat.add_zero]at g;exact g
 have:BB ^ (i+(d.length+1))*1<=BB ^ (i+(d.length+1))*c:=Nat.mul_le_mul_left _ j;omega
def MulOut.done{c:List Nat}(h:MulOut xs c L xs.length):bval L=bval xs*bval c:=by rw[h.val,List.take_length]
theorem Own.set{w:World}{B:Nat}{e:TypeId}{k:IntKind}{g n cap:Nat}{L:List Nat}(h:Own w B e k (.slice (some (Ad g 0)) n cap) L)(hn:L.length=n)(j v:Nat):
  Own (w.setCell (Ad g j) (.int k (v:Int))) B e k (.slice (some (Ad g 0)) n cap) (L.set j v):=by
 subst hn;have:=(World.ownsRow.stored h j (.int k (v:Int))).1;have c:(vals k L).set j (.int k (v:Int))=vals k (L.set j v):=by unfold vals;rw[List.map_set]
 rw[c]at this;unfold Own;rw[List.length_set];exact this
def Own.base(h:Own w B e k (.slice (some (Ad g c)) n cap) L):B<=g/\g<w.heap.size:=by
 have:=World.ownsRow.lt h g (by simp[Value.ownBlock]);exact this
theorem Own.cell(h:Own w B e k (.slice (some (Ad g 0)) n cap) L)(hn:L.length=n)(j:Nat)(c:j<n):w.cell? (Ad g j)=some (.int k ((nth L j:Nat):Int)):=by
 subst hn;rw[World.ownsRow.cellAt h j (by omega),PK k L j c]
theorem Own.free(h:Own w B e k (.slice (some (Ad g 0)) n cap) L)(hn:L.length=n)(j:Nat):w.frozen? (Ad g j)=false:=by
 subst hn;exact World.ownsRow.frozenAt h j
theorem KQ(k:IntKind)(n:Nat):vals k (List.replicate n 0)=List.replicate n (.int k 0):=by simp[vals]
set_option maxRecDepth 100000 in
theorem Uq(s t:ByteArray)(w:World)(hs:s.size<=maxLen)(ht:t.size<=maxLen)(a2:Tab w):
  Calls prog 166 #[.string s,.string t] w (PairEnd (mulF s t) w):=by
 have HT:=qh a2;clear a2;have c1:=Cm s w hs;have c2:=Cm t w ht;clear hs ht;cases C:vld s with
 |false =>
  have hr:mulF s t=(str [],1):=by unfold mulF;rw[C];rfl
  rw[hr];rw[C]at c1;clear hr C c2 HT;have C1:=qh c1;clear c1
  go_enter func166,ntmps166
  go_wp2_with fail
  refine C1.o.mono ?_;rintro e w'⟨rfl,rfl⟩;go_wp2;go_ret2;exact⟨rfl,blr⟩
 |true =>
  cases S:vld t with
  |false =>
   have hr:mulF s t=(str [],1):=by unfold mulF;rw[C,S];rfl
   rw[hr];rw[C]at c1;rw[S]at c2;clear hr C S HT;have C1:=qh c1;clear c1;have C2:=qh c2;clear c2
   go_enter func166,ntmps166
   go_wp2_with fail
   refine C1.o.mono ?_;rintro e w'⟨rfl,rfl⟩
   go_wp2_with fail
   refine C2.o.mono ?_;rintro e w'⟨rfl,rfl⟩;go_wp2;go_ret2;exact⟨rfl,blr⟩
  |true =>
   rw[C]at c1;rw[S]at c2;have C1:=qh c1;clear c1;have C2:=qh c2;clear c2;have lm:=CP C;have ln:=CP S;have b1:=Cv s w C;replace b1:=qh b1;have b2:=λw=>Cv t w S;replace b2:=qh b2;have H1:=qh C;clear C;have H2:=qh S;clear S;have hr:mulF s t=limS (val s*val t):=by unfold mulF;rw[H1.o,H2.o];rfl
   rw[hr];clear hr
   go_enter func166,ntmps166
   go_wp2_with fail
   refine C1.o.mono ?_;rintro e w'⟨rfl,rfl⟩
   go_wp2_with fail
   refine C2.o.mono ?_;rintro e w'⟨rfl,rfl⟩
   go_wp2_with fail
   refine b1.o.mono ?_;rintro e w1⟨v1,rfl,d6,U⟩;have b9:=qh d6;clear d6;replace U:=qh U;have e6:=U.o.size
   go_wp2_with fail
   refine(b2.o w1).mono ?_;rintro e J⟨v2,rfl,Y,N⟩;replace Y:=qh Y;replace N:=qh N;have g0:=N.o.size;have d0:=qh<|b9.o.sl.below N.o nlr;obtain⟨i0,e7,e8,e9,f0⟩:=info_parts FI;have e4:=λx=>AV (val s) x;have F:Small (toB (val s)):=AV _;have G:Small (toB (val t)):=AV _;obtain⟨g,Z⟩:=exq<|toB (val s);obtain⟨d,a1⟩:=exq<|toB (val t);rw[<-Z]at d0 lm F;rw[<-a1]at Y ln G;replace Z:=qh Z;replace a1:=qh a1;replace F:=qh F;replace G:=qh G;clear e4 b9;obtain⟨ax,cx,bx,ox,rfl,a6,f1,d1,W,m⟩:=d0.o.open;obtain⟨ay,cy,e2,oy,rfl,a7,f2,d2,X,o⟩:=Y.o.sl.open;unfold maxLen at d1 d2;replace m:=qh m;replace o:=qh o;replace a6:=qh a6;replace a7:=qh a7;have e0:=qh W;clear W;have e1:=qh X;clear X;obtain⟨wm,d5,h,b0⟩:=run_make_full J w.heap.size 210 196 i0 (.int .u64 0) 1 underlying210 e7 e8 e9 .i64 .i64 (g.length+d.length+1) (by rw[f0];omega) (by unfold maxLen;omega) (by omega);rw[show ((g.length+d.length+1:Nat):Int)=(g.length:Int)+(d.length:Int)+1 by omega]at d5;have a9:Below w.heap.size w wm:=U.o.trans<|(N.o.mono e6).trans (blr.grown b0 (by omega) (by simp));have O:Below J.heap.size J wm:=blr.grown b0 nlr (by simp);have a5:Own wm w.heap.size 196 .u64 (.slice (some (Ad J.heap.size 0)) (g.length+d.length+1) (g.length+d.length+1)) (List.replicate (g.length+d.length+1) 0):=by
    unfold Own;rw[KQ,List.length_replicate];have:=h;rw[Nat.mul_one,show (Value.int .u64 0).cells=#[Value.int .u64 0] from rfl,toList_madeCells_one]at this;exact this
   replace a9:=qh a9;replace O:=qh O;replace a5:=qh a5;clear h b0;go_wp2;clear d5
   go_loopw [34] (λi wr=>∃(k:Nat) (L:List Nat),k<=g.length/\i=.int .i64 k/\MulOut g d L k/\Own wr w.heap.size 196 .u64 (.slice (some (Ad J.heap.size 0)) (g.length+d.length+1) (g.length+d.length+1)) L/\Below w.heap.size w wr/\Below J.heap.size J wr)
    (λi _=>g.length-(intOf i).toNat)
   case atStart=>exact⟨0,_,Nat.zero_le _,rfl,MulOut.start g d,a5.o,a9.o,O.o⟩
   obtain⟨i,L,f7,rfl,A,h,P,z⟩:=hrel;have b8:=qh A;clear A;have HO:=qh h;clear h;have T:=qh P;clear P;have b7:=qh z;clear z;obtain⟨wo,rfl⟩:∃wo:World,wo=wr:=⟨_,rfl⟩;by_cases b6:i<g.length
   ·obtain rfl:=a6.o (by omega);have W:=e0.o (by omega);go_wp2
    go_loopw [10,40] (λc q wr=>∃(k cc:Nat) (L:List Nat),k<=d.length+1/\q=.int .i64 k/\c=.int .u64 cc/\MulIn g d L i k cc/\Own wr w.heap.size 196 .u64 (.slice (some (Ad J.heap.size 0)) (g.length+d.length+1) (g.length+d.length+1)) L/\Below w.heap.size w wr/\Below J.heap.size J wr)
     (λ_ q _=>d.length+1-(intOf q).toNat)
    case atStart=>exact⟨0,0,L,Nat.zero_le _,rfl,rfl,b8.o.inner,HO.o,T.o,b7.o⟩
    obtain⟨k,cc,L',f8,rfl,rfl,u,h,P,z⟩:=hrel;replace u:=qh u;have D:=qh h;clear h;have K:=qh P;clear P;have j:=qh z;clear z;by_cases d4:k<d.length+1
    ·have R:=u.o.step F.o G.o b6 d4;have l:=u.o.len;have a4:=qh R;clear R;have cl:=D.o.cell l (i+k) (by omega);have fl:=D.o.free l (i+k);have d7:=Jy (u.o.small (i+k)) u.o.carry (F.o i) (G.o k);replace l:=qh l
     rcases Nat.lt_or_ge k d.length with b5|b5
     ·obtain rfl:=a7.o (by omega);have X:=e1.o (by omega);have c1:=(j.o.cell (p:=(Ad bx (ox+i))) W).trans (m.o i b6);have c2:=(j.o.cell (p:=(Ad e2 (oy+k))) X).trans (o.o k b5);have B:(((nth g i:Nat):Int)*((nth d k:Nat):Int))=((nth g i*nth d k:Nat):Int):=by simp
      have f3:((nth g i:Nat):Int)*((nth d k:Nat):Int)<=999999998000000001:=by
       have C:=F.o i;have S:=G.o k;rw[An]at C S;have:nth g i*nth d k<=999999999*999999999:=Nat.mul_le_mul (by omega) (by omega);rw[B];omega
      have f9:nth L' (i+k)<=999999999:=by have:=u.o.small<|i+k;rw[An]at this;omega
      have f5:cc<=999999999:=by have:=u.o.carry;rw[An]at this;omega
      have f4:0<=((nth g i:Nat):Int)*((nth d k:Nat):Int):=by rw[B];omega
      replace B:=qh B;clear d7
      go_wp2_with fail
      go_quiet (fail)
      go_wp2;go_roundw
      case rel =>
       have em:((nth L' (i+k):Nat):Int)+(cc:Int)+((nth g i:Nat):Int)*((nth d k:Nat):Int)=((nth L' (i+k)+cc+nth g i*nth d k:Nat):Int):=by rw[B.o];omega
       rw[em];have ho:=(D.o.kept (below_drewN (Below.refl _ wr) nq) nlr).set l.o (i+k) ((nth L' (i+k)+cc+nth g i*nth d k) % 1000000000);exact⟨k+1,_,_,by omega,by go_num,by go_num,a4.o,ho,(below_drewN K.o nq).setCell D.o.base.1 _,(below_drewN j.o nq).setCell nlr _⟩
      simp[intOf];omega
     have hz:nth d k=0:=AN d k b5;have I:=a4.o;rw[hz,Nat.mul_zero,Nat.add_zero]at I;rw[hz,Nat.mul_zero,Nat.add_zero]at d7;replace I:=qh I;clear hz a4;go_wp2;go_roundw
     case rel =>
      have ho:=D.o.set l.o (i+k) ((nth L' (i+k)+cc) % 1000000000);exact⟨k+1,_,_,by omega,by go_num,by go_num,I.o,ho,K.o.setCell D.o.base.1 _,j.o.setCell nlr _⟩
     simp[intOf];omega
    have b4:k=d.length+1:=by omega
    replace b4:=qh b4;go_wp2;go_roundw
    case rel =>
     have C:=u.o;rw[b4.o]at C;exact⟨i+1,L',by omega,by go_num,C.done F.o G.o b6,D.o,K.o,j.o⟩
    simp[intOf];omega
   have b3:i=g.length:=by omega
   replace b3:=qh b3;have A:=b8.o;rw[b3.o]at A;have e5:=T.o.size;have d9:=EH (some (Ad J.heap.size 0)) (g.length+d.length+1) L wo (by rw[A.len];exact HO.o.sl);rw[A.len]at d9;have H:=qh A;clear A
   go_wp2_with fail
   refine d9.mono ?_;rintro e w4⟨kk,hk,rfl,rfl⟩;replace hk:=qh hk;have hb:=H.o.done;have E:(toB (val s*val t))=L.take kk:=by
    rw[Fs H.o.small hk.o.1 hk.o.2.1 hk.o.2.2,hb,Z.o,a1.o,AW,AW]
   have e3:kk<=g.length+d.length+1:=by have:=hk.o.1;rw[H.o.len]at this;exact this
   have d8:Sl wo .u64 (.slice (some (Ad J.heap.size 0)) kk (g.length+d.length+1)) (toB (val s*val t)):=by
    rw[E];exact HO.o.sl.take (by rw[H.o.len];exact e3)
   have d3:(toB (val s*val t)).length<=100000:=by rw[E,List.length_take];omega
   have Q:=MO _ (val s*val t) wo d8 d3 (HT.o.below T.o nlr);replace Q:=qh Q;clear d8 d3 E hb
   go_wp2_with fail
   refine Q.o.mono ?_;rintro e w5⟨rfl,a8⟩;replace a8:=qh a8;go_wp2;go_ret2;exact⟨rfl,T.o.trans (a8.o.mono e5)⟩
end
end Go.Proofs.YtpldocnhbdlgfaaGreatDoor
