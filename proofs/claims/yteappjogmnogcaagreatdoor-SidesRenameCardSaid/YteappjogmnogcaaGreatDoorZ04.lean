/- Parts. -/
import Derived.Test.YteappjogmnogcaaGreatDoorZ02
import Derived.Test.YteappjogmnogcaaGreatDoorZ01
import Derived.BigQuiet
namespace Go.Proofs.YteappjogmnogcaaGreatDoor
set_option maxRecDepth 100000
set_option linter.all false
set_option maxHeartbeats 16000000
open Go Tryz
section
open Go.RowKit
variable{m n:Nat}{c xs:List Nat}
def cmpN(m n:Nat):Int:=if m<n then -1 else if n<m then 1 else 0
def Cw(h:m<n):cmpN m n=-1:=by unfold cmpN;rw[ifp h]
theorem CW(h:n<m):cmpN m n=1:=by unfold cmpN;rw[ifn (by omega),ifp h]
theorem DZ(h:m=n):cmpN m n=0:=by unfold cmpN;rw[ifn (by omega),ifn (by omega)]
theorem JN(x:Int)(w:World):Calls prog 242 #[.int .u64 x] w λe w'=>e=.returned (.bool false)/\w=w':=by
 have h:(x != x)=false:=by simp
 go_enter func242,ntmps242
 go_wp2;go_ret;exact⟨rfl,rfl⟩
def Jo(x y:Nat)(w:World):Calls prog 231 #[.int .u64 (x:Int),.int .u64 (y:Int)] w λe w'=>e=.returned (.int .i64 (cmpN x y))/\w=w':=by
 rcases Nat.lt_trichotomy x y with h|h|h
 ·have c:=Cw h;have d:=qh c;clear c
  go_enter func231,ntmps231
  go_wp2_with (go_at_call 242;refine(JN _ _).mono ?_;rintro e w'⟨rfl,rfl⟩)
  go_ret;exact⟨BK d.o.symm,rfl⟩
 ·subst h;have c:=DZ (rfl:x=x);have d:=qh c;clear c
  go_enter func231,ntmps231
  go_wp2_with (go_at_call 242;refine(JN _ _).mono ?_;rintro e w'⟨rfl,rfl⟩)
  go_ret;exact⟨BK d.o.symm,rfl⟩
 have c:=CW h;have d:=qh c;clear c
 go_enter func231,ntmps231
 go_wp2_with (go_at_call 242;refine(JN _ _).mono ?_;rintro e w'⟨rfl,rfl⟩)
 go_ret;exact⟨BK d.o.symm,rfl⟩
theorem Gf(xs:List Nat)(k i:Nat):nth (xs.drop k) i=nth xs (k+i):=by simp[nth,List.getD_eq_getElem?_getD]
theorem Ms(xs:List Nat)(j:Nat):bval xs=bval (xs.take j)+BB ^ j*nth xs j+BB ^ (j+1)*bval (xs.drop (j+1)):=by
 rw[<-BC];by_cases h:j+1<=xs.length
 ·have:=EU (xs.take (j+1)) (xs.drop (j+1));rw[List.take_append_drop,List.length_take,Nat.min_eq_left h]at this;exact this
 rw[List.take_of_length_le (by omega),List.drop_of_length_le (by omega)];simp[bval]
theorem NZ(k:xs.length=c.length)(h:∀j,j<xs.length->nth xs j=nth c j):xs=c:=by
 apply List.ext_getElem k
 intro i d g;have:=h i d;rw[Db xs i d,Db c i g]at this;exact this
def Mq(l:Small xs)(k:xs.length=c.length)(j:Nat)(h:∀i,j<i->i<xs.length->nth xs i=nth c i)(d:nth xs j<nth c j):bval xs<bval c:=by
 rw[Ms xs j,Ms c j];have e:xs.drop (j+1)=c.drop (j+1):=NZ (by simp[k]) (λi hi=>by
  rw[Gf,Gf];rw[List.length_drop]at hi;exact h _ (by omega) (by omega))
 rw[e];have m:bval (xs.take j)<BB ^ j:=Nat.lt_of_lt_of_le (Ce (EI l j)) (Nat.pow_le_pow_right AO (by rw[List.length_take];omega));have g:BB ^ j*(nth xs j+1)<=BB ^ j*nth c j:=Nat.mul_le_mul_left _ d;rw[Nat.mul_add]at g;omega
def Oe(h:(toB m).length<(toB n).length):m<n:=by
 rcases Nat.lt_or_ge m n with c|c
 ·exact c
 have:=Ek c;omega
def CmpEnd(m n:Nat)(w:World)(e:Ending)(w':World):Prop:=e=.returned (.int .i64 (cmpN m n))/\Below w.heap.size w w'
def cmpint(x y:Nat)(w:World):Calls prog 230 #[.int .i64 (x:Int),.int .i64 (y:Int)] w λe w'=>e=.returned (.int .i64 (cmpN x y))/\w=w':=by
 refine(Tryz.cmp_Compare_int x y w).mono λe w' h=>⟨?_,h.2.symm⟩;rw[h.1]
 apply BK
 unfold Lib.compareInt cmpN
 repeat' split
 all_goals first|rfl|omega
def FN(X Y:Value)(m n:Nat)(w:World)(U:Sl w .u64 X (toB m))(W:Sl w .u64 Y (toB n)):
  Calls prog 220 #[X,Y] w (CmpEnd m n w):=by
 obtain⟨ax,cx,bx,ox,rfl,A,Q,G,L,c⟩:=U.open;obtain⟨ay,cy,K,oy,rfl,B,R,H,N,d⟩:=W.open;unfold maxLen at G H;clear U W;by_cases J:(toB m).length=(toB n).length
 ·have I:(((toB m).length:Int) != ((toB n).length:Int))=false:=by rw[J];simp
  go_enter func220,ntmps220
  have u:=qh J;clear J;go_wp2;clear I
  go_loopw [19] (λi wr=>∃k:Nat,k<=(toB m).length/\i=.int .i64 k/\(∀j,(toB m).length-1-k<j->j<(toB m).length->nth (toB m) j=nth (toB n) j)/\(k=(toB m).length->0<k->nth (toB m) 0=nth (toB n) 0)/\Below w.heap.size w wr) (λi _=>(toB m).length-(intOf i).toNat)
  case atStart=>exact⟨0,Nat.zero_le _,rfl,λj C D=>by omega,λ_ h=>absurd h (Nat.lt_irrefl _),blr⟩
  obtain⟨k,hk,rfl,g,o,hb⟩:=hrel;replace g:=qh g;replace o:=qh o;replace hb:=qh hb;by_cases a1:k<(toB m).length
  ·obtain rfl:=A (by omega);obtain rfl:=B (by have:=u.o;omega);have c1:=(hb.o.cell (p:=(Ad bx (ox+((toB m).length-1-k)))) (L (by omega))).trans (c ((toB m).length-1-k) (by omega));have c2:=(hb.o.cell (p:=(Ad K (oy+((toB m).length-1-k)))) (N (by have:=u.o;omega))).trans (d ((toB m).length-1-k) (by have:=u.o;omega));have S:(((toB m).length:Int)-1-(k:Int))<((toB n).length:Int):=by have:=u.o;omega
   have T:0<=(((toB m).length:Int)-1-(k:Int)):=by omega
   clear A B c d
   rcases Nat.lt_trichotomy (nth (toB m) ((toB m).length-1-k)) (nth (toB n) ((toB m).length-1-k)) with l|l|l
   ·have z:=Cw l;have s:cmpN m n=-1:=Cw (by
     have:=Mq (Ba m) u.o ((toB m).length-1-k) (λi C D=>g.o i C D) l
     rwa [Bb,Bb]at this)
    clear l;have E:=qh s;clear s;have F:=qh z;clear z
    go_wp2_with fail
    go_quiet ((go_at_call 231;exact Calls.quiet_of_same ((Jo _ _ _).mono λe O h=>⟨by rw[h.1,F.o],h.2.symm⟩)))
    go_wp2;go_ret;exact⟨BK E.o.symm,below_drewN hb.o _⟩
   ·have z:=DZ l;have P:=qh l;clear l;have F:=qh z;clear z
    go_wp2_with fail
    go_quiet ((go_at_call 231;exact Calls.quiet_of_same ((Jo _ _ _).mono λe O h=>⟨by rw[h.1,F.o],h.2.symm⟩)))
    go_wp2;go_roundw
    case rel =>
     refine⟨k+1,by omega,by go_num,λj C D=>?_,λC _=>?_,below_drewN hb.o _⟩
     ·by_cases e:j=(toB m).length-1-k
      ·rw[e];exact P.o
      exact g.o j (by omega) D
     have:=P.o
     rwa [show (toB m).length-1-k=0 by omega]at this
    simp[intOf];omega
   have z:=CW l;have s:cmpN m n=1:=CW (by
    have:=Mq (Ba n) u.o.symm ((toB m).length-1-k) (λi C D=>(g.o i C (by rw[u.o];exact D)).symm) l
    rwa [Bb,Bb]at this)
   clear l;have E:=qh s;clear s;have F:=qh z;clear z
   go_wp2_with fail
   go_quiet ((go_at_call 231;exact Calls.quiet_of_same ((Jo _ _ _).mono λe O h=>⟨by rw[h.1,F.o],h.2.symm⟩)))
   go_wp2;go_ret;exact⟨BK E.o.symm,below_drewN hb.o _⟩
  go_wp2;go_ret;have s:cmpN m n=0:=DZ (by
   have e:toB m=toB n:=NZ u.o (λj hj=>by
    by_cases Z:j=0
    ·subst Z;exact o.o (by omega) (by omega)
    exact g.o j (by omega) hj)
   rw[<-Bb m,e,Bb])
  exact⟨BK s.symm,hb.o⟩
 have I:(((toB m).length:Int) != ((toB n).length:Int))=true:=by rw[bne_iff_ne];omega
 have s:cmpN (toB m).length (toB n).length=cmpN m n:=by
  rcases Nat.lt_or_ge (toB m).length (toB n).length with h|h
  ·rw[Cw h,Cw (Oe h)]
  rw[CW (show (toB n).length<(toB m).length by omega),CW (Oe (by omega))]
 have E:=qh s;clear s;clear J A B c d
 go_enter func220,ntmps220
 go_wp2_with (go_at_call 230;refine(cmpint _ _ _).mono ?_;rintro e O⟨rfl,rfl⟩)
 go_ret;exact⟨BK E.o,blr⟩
def padj:Nat->Nat->List UInt8|0,_=>[] |j+1,b=>padj j (b / 10)++[UInt8.ofNat (48+b % 10)]
theorem TM(j:Nat):∀(n b:Nat),1<=n->b<10 ^ j->dec (n*10 ^ j+b)=dec n++padj j b:=by
 induction j with
 |zero=>intro n b _ hb;simp at hb;subst hb;simp[padj]
 |succ j ih =>
  intro n b c hb;have h:10<=n*10 ^ (j+1)+b:=by
   have:1*10 ^ (j+1)<=n*10 ^ (j+1):=Nat.mul_le_mul_right _ c;have:1<=10 ^ j:=Nat.pow_pos (by omega);rw[Nat.pow_succ]at *;omega
  rw[Ev (by omega)];have d:(n*10 ^ (j+1)+b) / 10=n*10 ^ j+b / 10:=by rw[Nat.pow_succ,<-Nat.mul_assoc];omega
  have g:(n*10 ^ (j+1)+b) % 10=b % 10:=by rw[Nat.pow_succ,<-Nat.mul_assoc];omega
  rw[d,g,ih n (b / 10) c (by rw[Nat.pow_succ]at hb;omega)];simp[padj]
theorem Xh(j:Nat):padj j 0=List.replicate j 48:=by
 induction j with
 |zero=>rfl
 |succ j ih=>simp only[padj,Nat.zero_div,Nat.zero_mod,ih];rw[List.replicate_succ'];rfl
def Xg(j:Nat):∀b,1<=j->b<10 ^ j->padj j b=List.replicate (j-(dec b).length) 48++dec b:=by
 induction j with
 |zero=>intro b h;omega
 |succ j ih =>
  intro b _ hb;by_cases h:b<10
  ·simp only[padj];rw[BD h,Nat.div_eq_of_lt h,Xh,Nat.mod_eq_of_lt h];simp
  have d:1<=j:=by
   rcases Nat.eq_zero_or_pos j with c|c
   ·subst c;simp at hb;omega
   exact c
  simp only[padj];rw[ih (b / 10) d (by rw[Nat.pow_succ]at hb;omega),Ev h];simp
def TH{n b:Nat}(hn:1<=n)(hb:b<BB):dec (b+BB*n)=dec n++(List.replicate (9-(dec b).length) 48++dec b):=by
 rw[An]at *;have h:b+1000000000*n=n*10 ^ 9+b:=by omega
 rw[h,TM 9 n b hn (by omega),Xg 9 b (by omega) (by omega)]
theorem TK{b:Nat}(hb:b<BB):(dec b).length<=9:=by rw[An]at hb;exact Cg.2 ⟨by omega,by omega⟩
noncomputable def topB(n k:Nat):List UInt8:=if k=0 then [] else dec (bval ((toB n).drop ((toB n).length-k)))
theorem QS(n:Nat):topB n 0=[]:=rfl
def Jz(xs:List Nat)(k:Nat)(c:k<xs.length):bval (xs.drop (xs.length-(k+1)))=nth xs (xs.length-1-k)+BB*bval (xs.drop (xs.length-k)):=by
 rw[List.drop_eq_getElem_cons (by omega),show xs.length-(k+1)+1=xs.length-k by omega];simp only[bval];rw[Db xs _ (by omega)]
 congr 2
 omega
def ZS(n:Nat)(h:n≠0):topB n 1=dec (nth (toB n) ((toB n).length-1)):=by
 have:=El h;unfold topB;rw[ifn (by omega),Jz (toB n) 0 (by omega),Nat.sub_zero,Nat.sub_zero,List.drop_length];simp[bval]
theorem ZT(n:Nat)(h:n≠0)(k:Nat)(g:1<=k)(d:k<=(toB n).length):1<=bval ((toB n).drop ((toB n).length-k)):=by
 induction k with
 |zero=>omega
 |succ k ih =>
  rw[Jz (toB n) k d]
  rcases Nat.eq_zero_or_pos k with c|c
  ·subst c;rw[Nat.sub_zero];have:=IH h;omega
  have:=ih c (by omega);have:BB*1<=BB*bval ((toB n).drop ((toB n).length-k)):=Nat.mul_le_mul_left _ this;have:=AO;omega
def ZU(n:Nat)(h:n≠0)(k:Nat)(c:1<=k)(d:k<(toB n).length):
  topB n (k+1)=topB n k++(List.replicate (9-(dec (nth (toB n) ((toB n).length-1-k))).length) 48++dec (nth (toB n) ((toB n).length-1-k))):=by
 unfold topB;rw[ifn (by omega),ifn (by omega),Jz (toB n) k d,TH (ZT n h k c (by omega)) (Ba n _)]
theorem QQ(n:Nat)(h:n≠0):topB n (toB n).length=dec n:=by
 have:=El h;unfold topB;rw[ifn (by omega),Nat.sub_self,List.drop_zero,Bb]
theorem QR(n k:Nat):(topB n k).length<=9*k:=by
 unfold topB
 split
 ·simp
 have c:Small ((toB n).drop ((toB n).length-k)):=λi=>by rw[Gf];exact Ba n _
 have d:=Ce c;refine Cg.2 ⟨Nat.lt_of_lt_of_le d ?_,by omega⟩;rw[pow9];exact Nat.pow_le_pow_right AO (by rw[List.length_drop];omega)
abbrev TB:TypeId:=220
abbrev TU8:TypeId:=5
def Mn{B b m:Nat}{p:Value}{o:List Value}{w u:World}(h:Lib.BuilderAt TB TU8 B b p o w)(hb:Below m w u)(E:w.heap.size<=m):Lib.BuilderAt TB TU8 B b p o u:=by
 obtain⟨z,v,s,c,l⟩:=h;have C:=(Array.getElem?_eq_some_iff.1 s).1;refine⟨z,v,by rw[hb.block b (by omega)];exact s,⟨c.1,?_⟩,l⟩
 rcases c.2 with D|⟨g,j,k,rfl,A,d,i⟩
 ·exact .inl D
 have:=(Array.getElem?_eq_some_iff.1 d).1;exact .inr ⟨g,j,k,rfl,A,by rw[hb.block g (by omega)];exact d,i⟩
def JM{B b c:Nat}{d:List Value}{w i:World}(h:Lib.IsBuilder TB TU8 B b d w)(hb:Below c w i)(g:w.heap.size<=c):Lib.IsBuilder TB TU8 B b d i:=by
 rcases h with h|h
 ·exact .inl (Mn h hb g)
 exact .inr<|Mn h hb g
theorem byteCells_append(l r:List UInt8):Lib.byteCells l++Lib.byteCells r=Lib.byteCells (l++r):=by simp[Lib.byteCells]
theorem ID(l:List UInt8):Lib.strCells (str l)=Lib.byteCells l:=by simp[Lib.strCells,Lib.byteCells,str]
def TextEnd(n:Nat)(w:World)(e:Ending)(w':World):Prop:=e=.returned (.string (str (dec n)))/\Below w.heap.size w w'
def ZI(g:Value)(w:World)(d:Sl w .u64 g (toB 0)):Calls prog 221 #[g] w (TextEnd 0 w):=by
 obtain⟨h,i,rfl⟩:=d.shape;have c:(toB 0).length=0:=rfl;rw[c];clear c d
 go_enter func221,ntmps221
 go_wp2;go_ret;exact⟨Du (by rw[BD (by omega)];rfl),blr⟩
def Vh(w:World):Lib.IsBuilder TB TU8 w.heap.size w.heap.size (Lib.byteCells []) (w.alloc (.cells #[.pointer none,.slice none 0 0] TB)) :=
 .inl ⟨nlr,.slice none 0 0,Go.heap_alloc_new w _,World.ownsRow_nil _ _ _ _,by simp[Value.ownBlock]⟩
theorem rep48(c:Nat):(⟨(Lib.repeatL (⟨#[48]⟩:ByteArray).data.toList c).toArray⟩:ByteArray)=str (List.replicate c 48):=by
 have:=Lib.repeatL_replicate 48 1 c;simp at this;show str (Lib.repeatL [48] c)=_;rw[this]
theorem ZH(vx:Value)(n:Nat)(J:n≠0)(w:World)(K:Sl w .u64 vx (toB n))(lx:(toB n).length<=100000)(Y:Tab w):Calls prog 221 #[vx] w (TextEnd n w):=by
 obtain⟨ax,cx,bx,ox,rfl,L,a1,P,N,l⟩:=K.open;have hl:=El J;obtain rfl:=L hl;have O:=N hl;have X:(((toB n).length:Int)==0)=false:=by rw[beq_eq_false_iff_ne];omega
 replace Y:=qh Y;replace J:=qh J;unfold maxLen at P;clear K L N
 go_enter func221,ntmps221
 go_wp2;clear X
 go_loopw [11] (λi wr=>∃k:Nat,k<=(toB n).length/\i=.int .i64 k/\Lib.IsBuilder TB TU8 w.heap.size w.heap.size (Lib.byteCells (topB n k)) wr/\Below w.heap.size w wr) (λi _=>(toB n).length-(intOf i).toNat)
 case atStart=>exact⟨0,Nat.zero_le _,rfl,Vh w,blr.alloc nlr _⟩
 obtain⟨k,hk,rfl,d,hb⟩:=hrel;replace d:=qh d;replace hb:=qh hb;have I:=hb.o.size;by_cases W:k<(toB n).length
 ·have c1:=(hb.o.cell (p:=(Ad bx (ox+((toB n).length-1-k)))) O).trans (l ((toB n).length-1-k) (by omega));have B:=Ba n ((toB n).length-1-k);have G:=TK B;have F:=He<|nth (toB n) ((toB n).length-1-k);have R:0<=(((toB n).length:Int)-1-(k:Int)):=by omega
  obtain⟨x,K⟩:=exq<|nth (toB n) ((toB n).length-1-k);rw[<-K]at c1 B G F;have A:=Vf x (by rw[An]at B;omega) wr (Y.o.below hb.o nlr);replace A:=qh A;have a7:=QR n k;have a2:(str (dec x)).size<=9:=by rw[AI];exact G
  have a3:1<=(str (dec x)).size:=by rw[AI];exact F
  have Z:=qh K;clear K;clear l B F G;by_cases Q:k=0
  ·subst Q;rw[Nat.sub_zero]at c1;clear R
   go_wp2_with fail
   refine A.o.mono ?_;rintro e U⟨rfl,c⟩;have s:=JM d.o c nlr;have C:=qh s;clear s;have g:=qh c;clear c;have S:=g.o.size
   go_wp2_with fail
   refine(Tryz.Builder_WriteString w.heap.size w.heap.size _ (str (dec x)) U C.o (by rw[QS];simp[Lib.byteCells];omega) (by omega)).mono ?_;rintro e w2⟨rfl,o,m⟩;have D:=qh o;clear o;have u:=qh m;clear m;go_wp2;go_roundw
   case rel =>
    refine⟨1,by omega,rfl,.inr ?_,hb.o.trans ((g.o.mono I).trans u.o)⟩;have:=D.o;rw[QS,ID,byteCells_append,Z.o,Nat.sub_zero,List.nil_append]at this;rw[ZS n J.o];exact this
   simp[intOf];omega
  have a6:0<k:=by omega
  clear Q
  go_wp2_with fail
  refine A.o.mono ?_;rintro e U⟨rfl,c⟩;have s:=JM d.o c nlr;have C:=qh s;clear s;have g:=qh c;clear c;have S:=g.o.size
  go_wp2_with fail
  have e9:(9-((str (dec x)).size:Int))=((9-(str (dec x)).size:Nat):Int):=by omega
  rw[e9];clear e9;refine(Tryz.strings_Repeat ⟨#[48]⟩ (9-(str (dec x)).size) U (by omega) (by show 1*(9-(str (dec x)).size)<=140737488355328;omega)).mono ?_;rintro e w2⟨rfl,m⟩;rw[rep48];have T:=JM C.o m nlr;have D:=qh T;clear T;have u:=qh m;clear m;have a4:=u.o.size
  go_wp2_with fail
  refine(Tryz.Builder_WriteString w.heap.size w.heap.size _ (str (List.replicate (9-(str (dec x)).size) 48)) w2 D.o (by rw[Lib.byteCells_length,AI,List.length_replicate];omega) (by omega)).mono ?_;rintro e w3⟨rfl,h,z⟩;replace h:=qh h;replace z:=qh z;have a5:=z.o.size
  go_wp2_with fail
  refine(Tryz.Builder_WriteString w.heap.size w.heap.size _ (str (dec x)) w3 (.inr h.o) (by rw[List.length_append,Lib.byteCells_length,ID,Lib.byteCells_length,List.length_replicate];omega) (by omega)).mono ?_;rintro e w4⟨rfl,j,E⟩;replace j:=qh j;replace E:=qh E;go_wp2;go_roundw
  case rel =>
   refine⟨k+1,by omega,by go_num,.inr ?_,hb.o.trans ((g.o.mono I).trans ((u.o.mono (by omega)).trans (z.o.trans E.o)))⟩;have:=j.o;rw[ID,ID,byteCells_append,byteCells_append,AI,List.append_assoc,Z.o]at this;rw[ZU n J.o k (by omega) W];exact this
  simp[intOf];omega
 go_wp2_with fail
 have H:k=(toB n).length:=by omega
 refine(Tryz.Builder_String_any w.heap.size w.heap.size (topB n k) wr d.o I).mono ?_;rintro e U⟨rfl,c⟩;replace H:=qh H;have g:=qh c;clear c;go_wp2;go_ret;exact⟨Du (by rw[H.o,QQ n J.o];rfl),hb.o.trans g.o⟩
def GG(c:Value)(n:Nat)(w:World)(g:Sl w .u64 c (toB n))(i:(toB n).length<=100000)(h:Tab w):Calls prog 221 #[c] w (TextEnd n w):=by
 by_cases d:n=0
 ·subst d;exact ZI c w g
 exact ZH c n d w g i h
variable{s:ByteArray}
def PairEnd(r:ByteArray × Nat)(w:World)(e:Ending)(w':World):Prop:=e=.returned (.tuple #[.string r.1,.int .i64 (r.2:Int)])/\Below w.heap.size w w'
def limS(n:Nat):ByteArray × Nat:=if (dec n).length<=1000 then (str (dec n),0) else (str [],2)
def vld(s:ByteArray):Bool:=Aq<|bts s
def val(s:ByteArray):Nat:=num<|bts s
def addF(s t:ByteArray):ByteArray × Nat:=if vld s&&vld t then limS (val s+val t) else (str [],1)
def subF(s t:ByteArray):ByteArray × Nat:=if vld s&&vld t then (if val s<val t then (str [],4) else (str (dec (val s-val t)),0)) else (str [],1)
def mulF(s t:ByteArray):ByteArray × Nat:=if vld s&&vld t then limS (val s*val t) else (str [],1)
def cmpF(s t:ByteArray):Int:=if vld s&&vld t then cmpN (val s) (val t) else 0
def Ip{c:ByteArray}{a b:Int}(h:s=c)(d:a=b):Ending.returned (.tuple #[.string s,.int .i64 a])=.returned (.tuple #[.string c,.int .i64 b]):=by rw[h,d]
theorem BL(h:vld s=true):1<=s.size/\s.size<=1000:=by
 obtain⟨c,d,_⟩:=Bf h;rw[Ap]at c d;exact⟨c,d⟩
def Rr(h:vld s=true):dgts (bts s)=true:=(Bf h).2.2.2
def WK{l:List UInt8}(h:dgts l=true)(k:Nat)(d:l.length<=9*k):num l<BB ^ k:=by
 have c:10 ^ l.length<=10 ^ (9*k):=Nat.pow_le_pow_right (by omega) d;rw[pow9]at c;exact Nat.lt_of_lt_of_le (Kj _ h) c
def Lw(h:vld s=true):val s<BB ^ 112:=WK (Rr h) 112 (by rw[Ap];have:=BL h;omega)
def CQ(h:vld s=true):(toB (val s)).length<=112:=GH<|Lw h
def Ct(s:ByteArray)(w:World)(c:s.size<=maxLen):
  Calls prog 204 #[.string s] w λe w'=>e=.returned (.bool (vld s))/\w=w':=z0k s w c
def CC(s:ByteArray)(w:World)(h:vld s=true):Calls prog 205 #[.string s] w (BlocksEnd (val s) w):=SJ s w (BL h).2 (Rr h)
def NY(j:Value)(n:Nat)(w:World)(o:Sl w .u64 j (toB n))(p:(toB n).length<=100000)(m:Tab w):
  Calls prog 206 #[j] w (PairEnd (limS n) w):=by
 have c:=QR n (toB n).length;have l:(dec n).length<=900000\/n=0:=by
  by_cases k:n=0
  ·exact .inr k
  rw[QQ n k]at c;exact .inl (by omega)
 have d:(dec n).length<=900000:=by
  rcases l with h|h
  ·exact h
  subst h;rw[BD (by omega)];simp
 clear c l;have u:(str (dec n)).size<=900000:=by rw[AI];exact d
 have g:=GG j n w o p m;replace g:=qh g;clear o m p;by_cases h:(dec n).length<=1000;have i:limS n=(str (dec n),0):=by unfold limS;rw[ifp h]
 have s:(str (dec n)).size<=1000:=by rw[AI];exact h
 rotate_left
 have i:limS n=(str [],2):=by unfold limS;rw[ifn h]
 have s:1000<(str (dec n)).size:=by rw[AI];omega
 all_goals
  rw[i];clear i h d
  go_enter func206,ntmps206
  go_wp2_with fail
  refine g.o.mono ?_;rintro e z⟨rfl,hb⟩;replace hb:=qh hb;go_wp2;go_ret2;exact⟨rfl,hb.o⟩
def Sd(s t:ByteArray)(w:World)(K:s.size<=maxLen)(L:t.size<=maxLen)(l:Tab w):
  Calls prog 201 #[.string s,.string t] w (PairEnd (addF s t) w):=by
 have D:=qh l;clear l;have c1:=Ct s w K;have c2:=Ct t w L;clear K L;cases c:vld s with
 |false =>
  have k:addF s t=(str [],1):=by unfold addF;rw[c];rfl
  rw[k];rw[c]at c1;clear k c c2 D;have z:=qh c1;clear c1
  go_enter func201,ntmps201
  go_wp2_with fail
  refine z.o.mono ?_;rintro e A⟨rfl,rfl⟩;go_wp2;go_ret2;exact⟨rfl,blr⟩
 |true =>
  cases h:vld t with
  |false =>
   have k:addF s t=(str [],1):=by unfold addF;rw[c,h];rfl
   rw[k];rw[c]at c1;rw[h]at c2;clear k c h D;have z:=qh c1;clear c1;have B:=qh c2;clear c2
   go_enter func201,ntmps201
   go_wp2_with fail
   refine z.o.mono ?_;rintro e A⟨rfl,rfl⟩
   go_wp2_with fail
   refine B.o.mono ?_;rintro e A⟨rfl,rfl⟩;go_wp2;go_ret2;exact⟨rfl,blr⟩
  |true =>
   rw[c]at c1;rw[h]at c2;have z:=qh c1;clear c1;have B:=qh c2;clear c2;have U:=CQ c;have W:=CQ h;have E:=CC s w c;replace E:=qh E;have F:=λw=>CC t w h;replace F:=qh F;have H:=qh c;clear c;have I:=qh h;clear h;have k:addF s t=limS (val s+val t):=by unfold addF;rw[H.o,I.o];rfl
   rw[k];clear k
   go_enter func201,ntmps201
   go_wp2_with fail
   refine z.o.mono ?_;rintro e A⟨rfl,rfl⟩
   go_wp2_with fail
   refine B.o.mono ?_;rintro e A⟨rfl,rfl⟩
   go_wp2_with fail
   refine E.o.mono ?_;rintro e R⟨v1,rfl,o,i⟩;replace o:=qh o;replace i:=qh i;have G:=i.o.size
   go_wp2_with fail
   refine(F.o R).mono ?_;rintro e S⟨P,rfl,p,d⟩;replace p:=qh p;replace d:=qh d;have N:=d.o.size;have C:=qh<|o.o.sl.below d.o nlr
   go_wp2_with fail
   refine(Xr v1 P (val s) (val t) S C.o p.o.sl (by omega) (by omega)).mono ?_;rintro e T⟨Q,rfl,u,j⟩;replace u:=qh u;replace j:=qh j;have J:=qh<|i.o.trans ((d.o.mono G).trans (j.o.mono (by omega)));have g:=NY Q (val s+val t) T u.o.sl (by
    have c:=Lw H.o;have h:=Lw I.o;have:val s+val t<BB ^ 113:=by
     have e:BB ^ 113=BB ^ 112*BB:=Nat.pow_succ ..;rw[e];have:BB ^ 112*2<=BB ^ 112*BB:=Nat.mul_le_mul_left _ EQ;omega
    have:=GH this;omega) (D.o.below J.o nlr)
   replace g:=qh g
   go_wp2_with fail
   refine g.o.mono ?_;rintro e X⟨rfl,m⟩;replace m:=qh m;have O:=j.o.size;go_wp2;go_ret2;exact⟨rfl,J.o.trans (m.o.mono (by omega))⟩
def Zo(s t:ByteArray)(w:World)(hs:s.size<=maxLen)(ht:t.size<=maxLen)(E:Tab w):
  Calls prog 203 #[.string s,.string t] w (PairEnd (subF s t) w):=by
 have X:=qh E;clear E;have c1:=Ct s w hs;have c2:=Ct t w ht;clear hs ht;cases i:vld s with
 |false =>
  have z:subF s t=(str [],1):=by unfold subF;rw[i];rfl
  rw[z];rw[i]at c1;clear z i c2 X;have O:=qh c1;clear c1
  go_enter func203,ntmps203
  go_wp2_with fail
  refine O.o.mono ?_;rintro e P⟨rfl,rfl⟩;go_wp2;go_ret2;exact⟨rfl,blr⟩
 |true =>
  cases A:vld t with
  |false =>
   have z:subF s t=(str [],1):=by unfold subF;rw[i,A];rfl
   rw[z];rw[i]at c1;rw[A]at c2;clear z i A X;have O:=qh c1;clear c1;have R:=qh c2;clear c2
   go_enter func203,ntmps203
   go_wp2_with fail
   refine O.o.mono ?_;rintro e P⟨rfl,rfl⟩
   go_wp2_with fail
   refine R.o.mono ?_;rintro e P⟨rfl,rfl⟩;go_wp2;go_ret2;exact⟨rfl,blr⟩
  |true =>
   rw[i]at c1;rw[A]at c2;have O:=qh c1;clear c1;have R:=qh c2;clear c2;have lm:=CQ i;have ln:=CQ A;have S:=CC s w i;replace S:=qh S;have T:=λw=>CC t w A;replace T:=qh T;replace i:=qh i;replace A:=qh A;by_cases o:val s<val t
   ·have z:subF s t=(str [],4):=by unfold subF;rw[i.o,A.o,ifp o];rfl
    have Q:cmpN (val s) (val t)=-1:=Cw o;rw[z];clear z o;have W:=qh Q;clear Q
    go_enter func203,ntmps203
    go_wp2_with fail
    refine O.o.mono ?_;rintro e P⟨rfl,rfl⟩
    go_wp2_with fail
    refine R.o.mono ?_;rintro e P⟨rfl,rfl⟩
    go_wp2_with fail
    refine S.o.mono ?_;rintro e w1⟨v1,rfl,p,k⟩;have G:=qh p;clear p;have j:=qh k;clear k;have N:=j.o.size
    go_wp2_with fail
    refine(T.o w1).mono ?_;rintro e w2⟨U,rfl,u,l⟩;have B:=qh u;clear u;have d:=qh l;clear l;have Z:=d.o.size;have C:=qh<|G.o.sl.below d.o nlr;have c:=FN v1 U (val s) (val t) w2 C.o B.o.sl;unfold CmpEnd at c;rw[W.o]at c;have F:=qh c;clear c
    go_wp2_with fail
    refine F.o.mono ?_;rintro e w3⟨rfl,m⟩;have g:=qh m;clear m;go_wp2;go_ret2;exact⟨rfl,j.o.trans ((d.o.mono N).trans (g.o.mono (by omega)))⟩
   have z:subF s t=(str (dec (val s-val t)),0):=by unfold subF;rw[i.o,A.o,ifn o];rfl
   have Q:cmpN (val s) (val t)=0\/cmpN (val s) (val t)=1:=by
    rcases Nat.lt_or_ge (val t) (val s) with h|h
    ·exact .inr (CW h)
    exact .inl (DZ (by omega))
   have I:val t<=val s:=by omega
   replace I:=qh I;rw[z];clear z o;have Y:∃q:Int,cmpN (val s) (val t)=q/\0<=q:=by
    rcases Q with h|h
    ·exact⟨0,h,by omega⟩
    exact⟨1,h,by omega⟩
   obtain⟨q,hq,a1⟩:=Y;clear Q;have W:=qh hq;clear hq
   go_enter func203,ntmps203
   go_wp2_with fail
   refine O.o.mono ?_;rintro e P⟨rfl,rfl⟩
   go_wp2_with fail
   refine R.o.mono ?_;rintro e P⟨rfl,rfl⟩
   go_wp2_with fail
   refine S.o.mono ?_;rintro e w1⟨v1,rfl,p,k⟩;have G:=qh p;clear p;have j:=qh k;clear k;have N:=j.o.size
   go_wp2_with fail
   refine(T.o w1).mono ?_;rintro e w2⟨U,rfl,u,l⟩;have B:=qh u;clear u;have d:=qh l;clear l;have Z:=d.o.size;have C:=qh<|G.o.sl.below d.o nlr;have c:=FN v1 U (val s) (val t) w2 C.o B.o.sl;unfold CmpEnd at c;rw[W.o]at c;have F:=qh c;clear c
   go_wp2_with fail
   refine F.o.mono ?_;rintro e w3⟨rfl,m⟩;have g:=qh m;clear m;have a2:=g.o.size;have J:=Wb v1 U (val s) (val t) w3 (C.o.below g.o nlr) (B.o.sl.below g.o nlr) (by omega) (by omega) I.o;replace J:=qh J
   go_wp2_with fail
   refine J.o.mono ?_;rintro e w4⟨v4,rfl,K,D⟩;replace K:=qh K;replace D:=qh D;have a3:=D.o.size;have HB:=qh<|j.o.trans ((d.o.mono N).trans ((g.o.mono (by omega)).trans (D.o.mono (by omega))));have L:=GG v4 (val s-val t) w4 K.o.sl (by have:=Ek<|Nat.sub_le (val s) (val t);omega) (X.o.below HB.o nlr);replace L:=qh L
   go_wp2_with fail
   refine L.o.mono ?_;rintro e w5⟨rfl,H⟩;replace H:=qh H;go_wp2;go_ret2;exact⟨rfl,HB.o.trans (H.o.mono (by omega))⟩
def IntEnd(q:Int)(w:World)(e:Ending)(w':World):Prop:=e=.returned (.int .i64 q)/\Below w.heap.size w w'
def Tr(s t:ByteArray)(w:World)(D:s.size<=maxLen)(E:t.size<=maxLen):
  Calls prog 202 #[.string s,.string t] w (IntEnd (cmpF s t) w):=by
 have c1:=Ct s w D;have c2:=Ct t w E;clear D E;cases c:vld s with
 |false =>
  have j:cmpF s t=0:=by unfold cmpF;rw[c];rfl
  rw[j];rw[c]at c1;clear j c c2;have o:=qh c1;clear c1
  go_enter func202,ntmps202
  go_wp2_with fail
  refine o.o.mono ?_;rintro e p⟨rfl,rfl⟩;go_wp2;go_ret;exact⟨rfl,blr⟩
 |true =>
  cases g:vld t with
  |false =>
   have j:cmpF s t=0:=by unfold cmpF;rw[c,g];rfl
   rw[j];rw[c]at c1;rw[g]at c2;clear j c g;have o:=qh c1;clear c1;have u:=qh c2;clear c2
   go_enter func202,ntmps202
   go_wp2_with fail
   refine o.o.mono ?_;rintro e p⟨rfl,rfl⟩
   go_wp2_with fail
   refine u.o.mono ?_;rintro e p⟨rfl,rfl⟩;go_wp2;go_ret;exact⟨rfl,blr⟩
  |true =>
   rw[c]at c1;rw[g]at c2;have o:=qh c1;clear c1;have u:=qh c2;clear c2;have J:=CQ c;have K:=CQ g;have A:=CC s w c;replace A:=qh A;have B:=λw=>CC t w g;replace B:=qh B;replace c:=qh c;replace g:=qh g;have j:cmpF s t=cmpN (val s) (val t):=by unfold cmpF;rw[c.o,g.o];rfl
   rw[j];clear j
   go_enter func202,ntmps202
   go_wp2_with fail
   refine o.o.mono ?_;rintro e p⟨rfl,rfl⟩
   go_wp2_with fail
   refine u.o.mono ?_;rintro e p⟨rfl,rfl⟩
   go_wp2_with fail
   refine A.o.mono ?_;rintro e H⟨v1,rfl,l,h⟩;replace l:=qh l;replace h:=qh h;have C:=h.o.size
   go_wp2_with fail
   refine(B.o H).mono ?_;rintro e I⟨G,rfl,m,d⟩;replace m:=qh m;replace d:=qh d;have F:=d.o.size;have z:=qh<|l.o.sl.below d.o nlr;have i:=FN v1 G (val s) (val t) I z.o m.o.sl;unfold CmpEnd at i;replace i:=qh i
   go_wp2_with fail
   refine i.o.mono ?_;rintro e L⟨rfl,k⟩;replace k:=qh k;go_wp2;go_ret;exact⟨rfl,h.o.trans ((d.o.mono C).trans (k.o.mono (by omega)))⟩
variable{L d:List Nat}{B c cap g i:Nat}{w:World}{e:TypeId}{k:IntKind}
def Fl(L:List Nat)(j v i:Nat)(h:j<L.length):nth (L.set j v) i=if i=j then v else nth L i:=by
 unfold nth;simp only[List.getD_eq_getElem?_getD,List.getElem?_set];by_cases e:j=i
 ·subst e;simp[h]
 rw[ifn e,ifn (λc=>e c.symm)]
theorem GA(h:Small L)(j v:Nat)(d:v<BB):Small (L.set j v):=λi=>by
 by_cases c:j<L.length
 ·rw[Fl L j v i c];split
  ·exact d
  exact h i
 rw[List.set_eq_of_length_le (by omega)];exact h i
def SV(L:List Nat):∀(j v:Nat),j<L.length->bval (L.set j v)+BB ^ j*nth L j=bval L+BB ^ j*v:=by
 induction L with
 |nil=>intro j v h;simp at h
 |cons x L ih =>
  intro j v h;cases j with
  |zero=>simp only[List.set_cons_zero,bval,Ki,Nat.pow_zero];omega
  |succ j =>
   have:=ih j v (by simpa using h);simp only[List.set_cons_succ,bval,HD,Nat.pow_succ];have e:BB*(bval (L.set j v)+BB ^ j*nth L j)=BB*(bval L+BB ^ j*v):=by rw[this]
   rw[Nat.mul_add,Nat.mul_add,<-Nat.mul_assoc,<-Nat.mul_assoc,Nat.mul_comm BB (BB ^ j)]at e;omega
theorem SU(k:Nat):bval (List.replicate k 0)=0:=Mw (λi=>by unfold nth;simp[List.getD_eq_getElem?_getD,List.getElem?_replicate];split<;>rfl)
def Qn(k:Nat):Small (List.replicate k 0):=λi=>by
 have:nth (List.replicate k 0) i=0:=by unfold nth;simp[List.getD_eq_getElem?_getD,List.getElem?_replicate];split<;>rfl
 rw[this];exact AO
structure MulIn(xs ys L:List Nat)(i k c:Nat):Prop where
 small:Small L
 carry:c<BB
 len:L.length=xs.length+ys.length+1
 val:bval L+BB ^ (i+k)*c=bval (xs.take i)*bval ys+BB ^ i*(nth xs i*bval (ys.take k))
structure MulOut(xs ys L:List Nat)(i:Nat):Prop where
 small:Small L
 len:L.length=xs.length+ys.length+1
 val:bval L=bval (xs.take i)*bval ys
theorem MulOut.start(xs c:List Nat):MulOut xs c (List.replicate (xs.length+c.length+1) 0) 0 :=
 ⟨Qn _,by simp,by rw[SU];simp[bval]⟩
def MulOut.inner{c:List Nat}(h:MulOut xs c L i):MulIn xs c L i 0 0 :=
 ⟨h.small,AO,h.len,by rw[h.val];simp[bval]⟩
def Kf{l x y:Nat}(d:l<BB)(g:c<BB)(h:x<BB)(i:y<BB):l+c+x*y<1000000000*1000000000:=by
 rw[An]at *;have:x*y<=999999999*999999999:=Nat.mul_le_mul (by omega) (by omega);omega
def MulIn.step{k:Nat}(h:MulIn xs d L i k c)(u:Small xs)(z:Small d)(hi:i<xs.length)(A:k<d.length+1):
  MulIn xs d (L.set (i+k) ((nth L (i+k)+c+nth xs i*nth d k) % 1000000000)) i (k+1) ((nth L (i+k)+c+nth xs i*nth d k) / 1000000000):=by
 have hb:=Kf (h.small (i+k)) h.carry (u i) (z k);have g:i+k<L.length:=by rw[h.len];omega
 have l:=SV L (i+k) ((nth L (i+k)+c+nth xs i*nth d k) % 1000000000) g;have m:=h.val;have j:=BC d k;generalize hp:nth L (i+k)+c+nth xs i*nth d k=p at *;have o:BB ^ (i+k)*nth L (i+k)+BB ^ (i+k)*c+BB ^ (i+k)*(nth xs i*nth d k)=BB ^ (i+k)*p:=by rw[<-hp,Nat.mul_add,Nat.mul_add]
 have s:BB ^ (i+k)*p=BB ^ (i+k)*(p % 1000000000)+BB ^ (i+k)*BB*(p / 1000000000):=by
  rw[Nat.mul_assoc,<-Nat.mul_add,An,Nat.mod_add_div]
 refine⟨GA h.small _ _ (by rw[An];exact Nat.mod_lt _ (by omega)),by rw[An];omega,by simp[h.len],?_⟩;rw[j,Nat.mul_add,Nat.mul_add,show i+(k+1)=i+k+1 by omega,Nat.pow_succ BB (i+k)];have e:BB ^ i*(nth xs i*(BB ^ k*nth d k))=BB ^ (i+k)*(nth xs i*nth d k):=by
  rw[Nat.pow_add,Nat.mul_left_comm (nth xs i),Nat.mul_assoc]
 rw[e];omega
def MulIn.done(h:MulIn xs d L i (d.length+1) c)(m:Small xs)(o:Small d)(hi:i<xs.length):MulOut xs d L (i+1):=by
 refine⟨h.small,h.len,?_⟩;have g:=h.val;rw[Cs (by omega:d.length<=d.length+1)]at g;have e:bval (xs.take i)*bval d+BB ^ i*(nth xs i*bval d)=bval (xs.take (i+1))*bval d:=by
  rw[BC,Nat.add_mul,Nat.mul_assoc]
 rw[e]at g;have k:bval (xs.take (i+1))<BB ^ (i+1):=by
  have:=Ce<|EI m (i+1);rw[List.length_take,Nat.min_eq_left (by omega)]at this;exact this
 have p:=Ce o;have l:bval (xs.take (i+1))*bval d<BB ^ (i+1)*BB ^ d.length:=by
  have s:bval (xs.take (i+1))*bval d<=bval (xs.take (i+1))*BB ^ d.length:=Nat.mul_le_mul_left _ (by omega);have u:bval (xs.take (i+1))*BB ^ d.length<BB ^ (i+1)*BB ^ d.length:=Nat.mul_lt_mul_of_pos_right k (Nat.pow_pos AO);omega
 rw[<-Nat.pow_add,show i+1+d.length=i+(d.length+1) by omega]at l
 rcases Nat.eq_zero_or_pos c with j|j
 ·subst j;rw[Nat.mul_zero,Nat.add_zero]at g;exact g
 have:BB ^ (i+(d.length+1))*1<=BB ^ (i+(d.length+1))*c:=Nat.mul_le_mul_left _ j;omega
def MulOut.done{c:List Nat}(h:MulOut xs c L xs.length):bval L=bval xs*bval c:=by rw[h.val,List.take_length]
theorem Own.set{w:World}{B:Nat}{e:TypeId}{k:IntKind}{g n cap:Nat}{L:List Nat}(h:Own w B e k (.slice (some (Ad g 0)) n cap) L)(hn:L.length=n)(j v:Nat):
  Own (w.setCell (Ad g j) (.int k (v:Int))) B e k (.slice (some (Ad g 0)) n cap) (L.set j v):=by
 subst hn;have:=(World.ownsRow.stored h j (.int k (v:Int))).1;have c:(vals k L).set j (.int k (v:Int))=vals k (L.set j v):=by unfold vals;rw[List.map_set]
 rw[c]at this;unfold Own;rw[List.length_set];exact this
def Own.base(h:Own w B e k (.slice (some (Ad g c)) n cap) L):B<=g/\g<w.heap.size:=by
 have:=World.ownsRow.lt h g (by simp[Value.ownBlock]);exact this
theorem Own.cell(h:Own w B e k (.slice (some (Ad g 0)) n cap) L)(hn:L.length=n)(j:Nat)(c:j<n):w.cell? (Ad g j)=some (.int k ((nth L j:Nat):Int)):=by
 subst hn;rw[World.ownsRow.cellAt h j (by omega),Rn k L j c]
theorem Own.free(h:Own w B e k (.slice (some (Ad g 0)) n cap) L)(hn:L.length=n)(j:Nat):w.frozen? (Ad g j)=false:=by
 subst hn;exact World.ownsRow.frozenAt h j
theorem Ly(k:IntKind)(n:Nat):vals k (List.replicate n 0)=List.replicate n (.int k 0):=by simp[vals]
set_option maxRecDepth 100000 in
theorem Wq(s t:ByteArray)(w:World)(hs:s.size<=maxLen)(ht:t.size<=maxLen)(a2:Tab w):
  Calls prog 189 #[.string s,.string t] w (PairEnd (mulF s t) w):=by
 have HT:=qh a2;clear a2;have c1:=Ct s w hs;have c2:=Ct t w ht;clear hs ht;cases C:vld s with
 |false =>
  have hr:mulF s t=(str [],1):=by unfold mulF;rw[C];rfl
  rw[hr];rw[C]at c1;clear hr C c2 HT;have C1:=qh c1;clear c1
  go_enter func189,ntmps189
  go_wp2_with fail
  refine C1.o.mono ?_;rintro e w'⟨rfl,rfl⟩;go_wp2;go_ret2;exact⟨rfl,blr⟩
 |true =>
  cases S:vld t with
  |false =>
   have hr:mulF s t=(str [],1):=by unfold mulF;rw[C,S];rfl
   rw[hr];rw[C]at c1;rw[S]at c2;clear hr C S HT;have C1:=qh c1;clear c1;have C2:=qh c2;clear c2
   go_enter func189,ntmps189
   go_wp2_with fail
   refine C1.o.mono ?_;rintro e w'⟨rfl,rfl⟩
   go_wp2_with fail
   refine C2.o.mono ?_;rintro e w'⟨rfl,rfl⟩;go_wp2;go_ret2;exact⟨rfl,blr⟩
  |true =>
   rw[C]at c1;rw[S]at c2;have C1:=qh c1;clear c1;have C2:=qh c2;clear c2;have lm:=CQ C;have ln:=CQ S;have b1:=CC s w C;replace b1:=qh b1;have b2:=λw=>CC t w S;replace b2:=qh b2;have H1:=qh C;clear C;have H2:=qh S;clear S;have hr:mulF s t=limS (val s*val t):=by unfold mulF;rw[H1.o,H2.o];rfl
   rw[hr];clear hr
   go_enter func189,ntmps189
   go_wp2_with fail
   refine C1.o.mono ?_;rintro e w'⟨rfl,rfl⟩
   go_wp2_with fail
   refine C2.o.mono ?_;rintro e w'⟨rfl,rfl⟩
   go_wp2_with fail
   refine b1.o.mono ?_;rintro e w1⟨v1,rfl,d2,U⟩;have b8:=qh d2;clear d2;replace U:=qh U;have e2:=U.o.size
   go_wp2_with fail
   refine(b2.o w1).mono ?_;rintro e J⟨v2,rfl,Y,N⟩;replace Y:=qh Y;replace N:=qh N;have f5:=N.o.size;have b9:=qh<|b8.o.sl.below N.o nlr;obtain⟨i0,e3,e4,e5,e6⟩:=info_parts FY;have e0:=λx=>Ba (val s) x;have F:Small (toB (val s)):=Ba _;have G:Small (toB (val t)):=Ba _;obtain⟨g,Z⟩:=exq<|toB (val s);obtain⟨d,a1⟩:=exq<|toB (val t);rw[<-Z]at b9 lm F;rw[<-a1]at Y ln G;replace Z:=qh Z;replace a1:=qh a1;replace F:=qh F;replace G:=qh G;clear e0 b8;obtain⟨ax,cx,bx,ox,rfl,a5,e7,c7,W,m⟩:=b9.o.open;obtain⟨ay,cy,d8,oy,rfl,a6,e8,c8,X,o⟩:=Y.o.sl.open;unfold maxLen at c7 c8;replace m:=qh m;replace o:=qh o;replace a5:=qh a5;replace a6:=qh a6;have d6:=qh W;clear W;have d7:=qh X;clear X;obtain⟨wm,d1,h,a9⟩:=run_make_full J w.heap.size 199 179 i0 (.int .u64 0) 1 underlying199 e3 e4 e5 .i64 .i64 (g.length+d.length+1) (by rw[e6];omega) (by unfold maxLen;omega) (by omega);rw[show ((g.length+d.length+1:Nat):Int)=(g.length:Int)+(d.length:Int)+1 by omega]at d1;have a8:Below w.heap.size w wm:=U.o.trans<|(N.o.mono e2).trans (blr.grown a9 (by omega) (by simp));have O:Below J.heap.size J wm:=blr.grown a9 nlr (by simp);have a4:Own wm w.heap.size 179 .u64 (.slice (some (Ad J.heap.size 0)) (g.length+d.length+1) (g.length+d.length+1)) (List.replicate (g.length+d.length+1) 0):=by
    unfold Own;rw[Ly,List.length_replicate];have:=h;rw[Nat.mul_one,show (Value.int .u64 0).cells=#[Value.int .u64 0] from rfl,toList_madeCells_one]at this;exact this
   replace a8:=qh a8;replace O:=qh O;replace a4:=qh a4;clear h a9;go_wp2;clear d1
   go_loopw [34] (λi wr=>∃(k:Nat) (L:List Nat),k<=g.length/\i=.int .i64 k/\MulOut g d L k/\Own wr w.heap.size 179 .u64 (.slice (some (Ad J.heap.size 0)) (g.length+d.length+1) (g.length+d.length+1)) L/\Below w.heap.size w wr/\Below J.heap.size J wr)
    (λi _=>g.length-(intOf i).toNat)
   case atStart=>exact⟨0,_,Nat.zero_le _,rfl,MulOut.start g d,a4.o,a8.o,O.o⟩
   obtain⟨i,L,f2,rfl,A,h,P,z⟩:=hrel;have b7:=qh A;clear A;have HO:=qh h;clear h;have T:=qh P;clear P;have b6:=qh z;clear z;obtain⟨wo,rfl⟩:∃wo:World,wo=wr:=⟨_,rfl⟩;by_cases b5:i<g.length
   ·obtain rfl:=a5.o (by omega);have W:=d6.o (by omega);go_wp2
    go_loopw [10,40] (λc q wr=>∃(k cc:Nat) (L:List Nat),k<=d.length+1/\q=.int .i64 k/\c=.int .u64 cc/\MulIn g d L i k cc/\Own wr w.heap.size 179 .u64 (.slice (some (Ad J.heap.size 0)) (g.length+d.length+1) (g.length+d.length+1)) L/\Below w.heap.size w wr/\Below J.heap.size J wr)
     (λ_ q _=>d.length+1-(intOf q).toNat)
    case atStart=>exact⟨0,0,L,Nat.zero_le _,rfl,rfl,b7.o.inner,HO.o,T.o,b6.o⟩
    obtain⟨k,cc,L',f3,rfl,rfl,u,h,P,z⟩:=hrel;replace u:=qh u;have D:=qh h;clear h;have K:=qh P;clear P;have j:=qh z;clear z;by_cases d0:k<d.length+1
    ·have R:=u.o.step F.o G.o b5 d0;have l:=u.o.len;have a3:=qh R;clear R;have cl:=D.o.cell l (i+k) (by omega);have fl:=D.o.free l (i+k);have d3:=Kf (u.o.small (i+k)) u.o.carry (F.o i) (G.o k);replace l:=qh l
     rcases Nat.lt_or_ge k d.length with b4|b4
     ·obtain rfl:=a6.o (by omega);have X:=d7.o (by omega);have c1:=(j.o.cell (p:=(Ad bx (ox+i))) W).trans (m.o i b5);have c2:=(j.o.cell (p:=(Ad d8 (oy+k))) X).trans (o.o k b4);have B:(((nth g i:Nat):Int)*((nth d k:Nat):Int))=((nth g i*nth d k:Nat):Int):=by simp
      have e9:((nth g i:Nat):Int)*((nth d k:Nat):Int)<=999999998000000001:=by
       have C:=F.o i;have S:=G.o k;rw[An]at C S;have:nth g i*nth d k<=999999999*999999999:=Nat.mul_le_mul (by omega) (by omega);rw[B];omega
      have f4:nth L' (i+k)<=999999999:=by have:=u.o.small<|i+k;rw[An]at this;omega
      have f1:cc<=999999999:=by have:=u.o.carry;rw[An]at this;omega
      have f0:0<=((nth g i:Nat):Int)*((nth d k:Nat):Int):=by rw[B];omega
      replace B:=qh B;clear d3
      go_wp2_with fail
      go_quiet (fail)
      go_wp2;go_roundw
      case rel =>
       have em:((nth L' (i+k):Nat):Int)+(cc:Int)+((nth g i:Nat):Int)*((nth d k:Nat):Int)=((nth L' (i+k)+cc+nth g i*nth d k:Nat):Int):=by rw[B.o];omega
       rw[em];have ho:=(D.o.kept (below_drewN (Below.refl _ wr) nq) nlr).set l.o (i+k) ((nth L' (i+k)+cc+nth g i*nth d k) % 1000000000);exact⟨k+1,_,_,by omega,by go_num,by go_num,a3.o,ho,(below_drewN K.o nq).setCell D.o.base.1 _,(below_drewN j.o nq).setCell nlr _⟩
      simp[intOf];omega
     have hz:nth d k=0:=AT d k b4;have I:=a3.o;rw[hz,Nat.mul_zero,Nat.add_zero]at I;rw[hz,Nat.mul_zero,Nat.add_zero]at d3;replace I:=qh I;clear hz a3;go_wp2;go_roundw
     case rel =>
      have ho:=D.o.set l.o (i+k) ((nth L' (i+k)+cc) % 1000000000);exact⟨k+1,_,_,by omega,by go_num,by go_num,I.o,ho,K.o.setCell D.o.base.1 _,j.o.setCell nlr _⟩
     simp[intOf];omega
    have b3:k=d.length+1:=by omega
    replace b3:=qh b3;go_wp2;go_roundw
    case rel =>
     have C:=u.o;rw[b3.o]at C;exact⟨i+1,L',by omega,by go_num,C.done F.o G.o b5,D.o,K.o,j.o⟩
    simp[intOf];omega
   have b0:i=g.length:=by omega
   replace b0:=qh b0;have A:=b7.o;rw[b0.o]at A;have e1:=T.o.size;have d5:=EN (some (Ad J.heap.size 0)) (g.length+d.length+1) L wo (by rw[A.len];exact HO.o.sl);rw[A.len]at d5;have H:=qh A;clear A
   go_wp2_with fail
   refine d5.mono ?_;rintro e w4⟨kk,hk,rfl,rfl⟩;replace hk:=qh hk;have hb:=H.o.done;have E:(toB (val s*val t))=L.take kk:=by
    rw[FC H.o.small hk.o.1 hk.o.2.1 hk.o.2.2,hb,Z.o,a1.o,Bb,Bb]
   have d9:kk<=g.length+d.length+1:=by have:=hk.o.1;rw[H.o.len]at this;exact this
   have d4:Sl wo .u64 (.slice (some (Ad J.heap.size 0)) kk (g.length+d.length+1)) (toB (val s*val t)):=by
    rw[E];exact HO.o.sl.take (by rw[H.o.len];exact d9)
   have c9:(toB (val s*val t)).length<=100000:=by rw[E,List.length_take];omega
   have Q:=NY _ (val s*val t) wo d4 c9 (HT.o.below T.o nlr);replace Q:=qh Q;clear d4 c9 E hb
   go_wp2_with fail
   refine Q.o.mono ?_;rintro e w5⟨rfl,a7⟩;replace a7:=qh a7;go_wp2;go_ret2;exact⟨rfl,T.o.trans (a7.o.mono e1)⟩
end
end Go.Proofs.YteappjogmnogcaaGreatDoor
