/- Parts of a proof: MR3 MR4. -/
import Derived.Test.YtjekapjbigfkbaaGreatDoorT06
import Derived.Test.YtjekapjbigfkbaaGreatDoorT04
import Derived.Test.YtjekapjbigfkbaaGreatDoorT03
import Derived.Test.YtjekapjbigfkbaaGreatDoorT05
namespace Go.Proofs.YtjekapjbigfkbaaGreatDoor
set_option maxRecDepth 100000
set_option linter.unusedSimpArgs false
set_option linter.unusedVariables false
set_option linter.unusedSectionVars false
set_option maxHeartbeats 16000000
open Go Tryz
section
open Go.RowKit
theorem u0x (m n:Nat) (w:World) (c:fits m) (hn:fits n) (h:fits (m+n)) :
  Calls prog 138 #[.string (str (dec m)),.string (str (dec n))] w (StrZ (str (dec (m+n))) w):=by
 have:=v7q (str (dec m)) (str (dec n)) w (z0z c) (z0z hn);rw[x6y (z2r c) (z2r hn) (by rw[z1g,z1g];exact h),z1g,z1g] at this;exact this
theorem x9r (m n:Nat) (w:World) (c:fits m) (hn:fits n) (h:n<=m) :
  Calls prog 140 #[.string (str (dec m)),.string (str (dec n))] w (StrZ (str (dec (m-n))) w):=by
 have:=v6d (str (dec m)) (str (dec n)) w (z0z c) (z0z hn);rw[v4x (z2r c) (z2r hn) (by rw[z1g,z1g];exact h),z1g,z1g] at this;exact this
theorem u0g (m n:Nat) (w:World) (c:fits m) (hn:fits n) (h:fits (m*n)) :
  Calls prog 141 #[.string (str (dec m)),.string (str (dec n))] w (StrZ (str (dec (m*n))) w):=by
 have:=v8r (str (dec m)) (str (dec n)) w (z0z c) (z0z hn);rw[x6t (z2r c) (z2r hn) (by rw[z1g,z1g];exact h),z1g,z1g] at this;exact this
theorem v4d (m n:Nat) (w:World) (c:fits m) (hn:fits n) :
  Calls prog 137 #[.string (str (dec m)),.string (str (dec n))] w (StrZ (str (dec (Nat.gcd m n))) w):=by
 have:=v6u (str (dec m)) (str (dec n)) w (z0z c) (z0z hn);rw[v9h (z2r c) (z2r hn),z1g,z1g] at this;exact this
theorem v3f (m n:Nat) (w:World) (c:fits m) (hn:fits n) (h:n≠0) :
  Calls prog 143 #[.string (str (dec m)),.string (str (dec n))] w fun e w'=>e=.returned (.tuple #[.string (str (dec (m / n))),.string (str (dec (m % n))),.int .i64 0])/\Below w.heap.size w w':=by
 have:=x7a (str (dec m)) (str (dec n)) w (z0z c) (z0z hn);rw[x3n (z2r c) (z2r hn) (by rw[z1g];exact h),z1g,z1g] at this;exact this
theorem v2k (m n:Nat) (w:World) (c:fits m) (hn:fits n) :
  Calls prog 139 #[.string (str (dec m)),.string (str (dec n))] w (IntEnd (cmpN m n) w):=by
 have:=v5n (str (dec m)) (str (dec n)) w (z0z c) (z0z hn);unfold cmpF at this;rw[z2r c,z2r hn,z1g,z1g] at this;exact this
theorem z7y (m n:Nat) (w:World) (d:fits m) (hn:fits n) (h:fits (m*n)) :
  Calls prog 101 #[.string (str (dec m)),.string (str (dec n))] w (StrE (str (dec (m*n))) w):=by
 have c:=u0g m n w d hn h;have g:=qh c;clear c d hn h
 go_enter func101,ntmps101
 go_wp2_with fail
 refine g.out.mono ?_;rintro e j ⟨rfl,hb⟩;have i:=qh hb;clear hb
 go_wp2_with fail
 go_ret;exact⟨rfl,i.out⟩
theorem v4q (p q:Bool) (m n:Nat) (w:World) (h:fits (m+n)) :
  Calls prog 100 #[.bool p,.string (str (dec m)),.bool q,.string (str (dec n))] w fun e w' =>
   e=.returned (.tuple #[.bool (sumF p m q n).1,.string (str (dec (sumF p m q n).2))])/\Below w.heap.size w w':=by
 have r:fits m:=z4t h (by omega);have o:fits n:=z4t h (by omega);by_cases c:p=q
 ·subst c;have l:sumF p m p n=(p,m+n):=by unfold sumF;rw[if_pos rfl]
  rw[l];have k:=u0x m n w r o h;have A:=qh k;clear k r o h l;have G:(p==p)=true:=by cases p<;>rfl
  go_enter func100,ntmps100
  go_wp2_with fail
  refine A.out.mono ?_;rintro e s ⟨rfl,hb⟩;have F:=qh hb;clear hb
  go_wp2_with fail
  go_ret2;exact⟨rfl,F.out⟩
 have hb:(p==q)=false:=by rw[beq_eq_false_iff_ne];exact c
 by_cases d:m<n
 ·have l:sumF p m q n=(q,n-m):=by unfold sumF;rw[if_neg c,if_pos d]
  rw[l];have k:=v2k m n w r o;rw[z4k d] at k;have v:=fun s=>x9r n m s o r (Nat.le_of_lt d);have A:=qh k;clear k;have C:=qh v;clear v;clear r o h l d c
  go_enter func100,ntmps100
  go_wp2_with fail
  refine A.out.mono ?_;rintro e s ⟨rfl,i⟩;have j:=qh i;clear i
  go_wp2_with fail
  refine(C.out s).mono ?_;rintro e E ⟨rfl,g⟩;have u:=qh (j.out.trans (g.mono j.out.size));clear g
  go_wp2_with fail
  go_ret2;exact⟨rfl,u.out⟩
 have l:sumF p m q n=(p,m-n):=by unfold sumF;rw[if_neg c,if_neg d]
 rw[l];have k:=v2k m n w r o;have B:0<=cmpN m n:=by
  rcases Nat.lt_or_ge n m with D|D
  ·rw[z6k D];omega
  rw[z8k (by omega)];omega
 generalize cmpN m n=z at k B;have v:=fun s=>x9r m n s r o (by omega);have A:=qh k;clear k;have C:=qh v;clear v;clear r o h l d c
 go_enter func100,ntmps100
 go_wp2_with fail
 refine A.out.mono ?_;rintro e s ⟨rfl,i⟩;have j:=qh i;clear i
 go_wp2_with fail
 refine(C.out s).mono ?_;rintro e E ⟨rfl,g⟩;have u:=qh (j.out.trans (g.mono j.out.size));clear g
 go_wp2_with fail
 go_ret2;exact⟨rfl,u.out⟩
theorem x2d (s:ByteArray) (w:World) (d:s.size<=9223372036854775807) :
  Calls prog 136 #[.string s] w fun e w'=>e=.returned (.bool (decide (s.size<=400)&&vld s))/\w=w':=by
 have c:=z1y s w (by unfold maxLen;omega);have i:=qh c;clear c;by_cases h:s.size<=400
 ·have g:(s.size:Int)<=400:=by omega
  have e:(decide (s.size<=400)&&vld s)=vld s:=by rw[decide_eq_true h];rfl
  rw[e];clear h e d
  go_enter func136,ntmps136
  go_wp2_with fail
  refine i.out.mono ?_;rintro e j ⟨rfl,rfl⟩
  go_wp2_with fail
  go_ret;exact⟨rfl,rfl⟩
 have g:(400:Int)<(s.size:Int):=by omega
 have e:(decide (s.size<=400)&&vld s)=false:=by rw[decide_eq_false h];rfl
 rw[e];clear h e d
 go_enter func136,ntmps136
 go_wp2_with fail
 go_ret;exact⟨rfl,rfl⟩
theorem u2a (l:List UInt8):∀ (i:Nat),i<l.length->(∀ j,j<i->l.getD j 0≠47)->l.getD i 0=47->hasS l=true/\(upTo l).length=i:=by
 induction l with
 | nil=>intro i hi;simp at hi
 | cons a l ih =>
  intro i hi k c;cases i with
  | zero=>simp at c;subst c;simp[hasS,upTo]
  | succ i =>
   have d:a≠47:=by have:=k 0 (by omega);simpa using this
   obtain⟨g,o⟩:=ih i (by simpa using hi) (fun j h=>by have:=k (j+1) (by omega);simpa using this) (by simpa using c);have e2:upTo (a::l)=a::upTo l:=by simp[upTo,d]
   refine⟨?_,by rw[e2,List.length_cons,o]⟩;simp[hasS,d] at g ⊢;exact g
theorem v0f (l:List UInt8) (h:∀ j,j<l.length->l.getD j 0≠47):hasS l=false:=by
 simp[hasS];intro c i e;obtain⟨j,g,d⟩:=List.getElem_of_mem i
 apply h j g
 rw[List.getD_eq_getElem?_getD,List.getElem?_eq_getElem g];simp[d,e]
theorem u0m (c:UInt8) (h:c≠47):((c.toNat:Int)==47)=false:=by
 rw[beq_eq_false_iff_ne];intro e;apply h;apply UInt8.toNat_inj.1;show c.toNat=47;omega
def idxF (s:ByteArray):Int:=if hasS (bts s) then ((upTo (bts s)).length:Int) else -1
theorem v1d (s:ByteArray) (w:World) (A:s.size<=9223372036854775807) :
  Calls prog 135 #[.string s,.int .u8 47] w fun e w'=>e=.returned (.int .i64 (idxF s))/\Below w.heap.size w w':=by
 have D:(s.size:Int)<=9223372036854775807:=by omega
 clear A
 go_enter func135,ntmps135
 go_wp2
 go_loopw [5] (fun i wr=>∃ k:Nat,k<=s.size/\i=.int .i64 k/\(∀ j,j<k->(bts s).getD j 0≠47)/\wr=w) (fun i _=>s.size-(intOf i).toNat)
 case atStart=>exact⟨0,Nat.zero_le _,rfl,fun j o=>by omega,rfl⟩
 obtain⟨k,C,rfl,o,rfl⟩:=hrel;have v:=qh o;clear o;by_cases c:k<s.size
 ·by_cases d:s[k]=47
  ·have u:((s[k].toNat:Int)==47)=true:=by rw[d];rfl
   have l:idxF s=k:=by
    obtain⟨B,z⟩:=u2a (bts s) k (by rw[z0j];exact c) v.out (by rw[z8a s k c];exact d);unfold idxF;rw[B,z];rfl
   have r:=qh l;clear l d;go_wp2;go_ret;exact⟨z4x r.out.symm,Below.refl _ _⟩
  have u:((s[k].toNat:Int)==47)=false:=u0m _ d;have g:∀ j,j<k+1->(bts s).getD j 0≠47:=by
   intro j o;by_cases e:j=k
   ·subst e;rw[z8a s j c];exact d
   exact v.out j (by omega)
  have p:=qh g;clear g d;go_wp2;go_roundw
  case rel=>exact⟨k+1,by omega,by go_num,p.out,by trivial⟩
  simp[intOf];omega
 have l:idxF s=-1:=by
  unfold idxF;rw[v0f (bts s) (fun j h=>v.out j (by rw[z0j] at h;omega))];rfl
 have r:=qh l;clear l;go_wp2;go_ret;exact⟨z4x r.out.symm,Below.refl _ _⟩
end
section
open Go.RowKit
def txtM (r:Bool) (x y:ByteArray):ByteArray :=
 let s:=if r then (⟨#[45]⟩:ByteArray)++x else x
 if y=⟨#[49]⟩ then s else (s++(⟨#[47]⟩:ByteArray))++y
theorem u3h (r:Bool) (x y:ByteArray):txtM r x y=txtS r x y:=by
 unfold txtM txtS;by_cases h:y=⟨#[49]⟩
 ·rw[if_pos h,if_pos h]
 rw[if_neg h,if_neg h,ByteArray.append_assoc]
theorem v8p (s:Bool) (a b g x y t u:ByteArray) (r:Bool) (w:World) (F:(s=false/\r=false)\/(s=true/\(x.toList==[48])=!r)) (hb:(b.toList==[48])=false)
  (I:x.size<=1000) (J:y.size<=1000)
  (c0:∀ wx,Calls prog 142 #[.string a] wx fun e w'=>e=.returned (.bool true)/\wx=w')
  (o:∀ wx,Calls prog 142 #[.string b] wx fun e w'=>e=.returned (.bool true)/\wx=w')
  (c1:∀ wx,Calls prog 137 #[.string a,.string b] wx (StrZ g wx))
  (c2:∀ wx,Calls prog 143 #[.string a,.string g] wx fun e w'=>e=.returned (.tuple #[.string x,.string t,.int .i64 0])/\Below wx.heap.size wx w')
  (c3:∀ wx,Calls prog 143 #[.string b,.string g] wx fun e w'=>e=.returned (.tuple #[.string y,.string u,.int .i64 0])/\Below wx.heap.size wx w') :
  Calls prog 102 #[.bool s,.string a,.string b] w fun e w' =>
   e=(if x.size<=400/\y.size<=400 then .returned (.tuple #[.string (txtM r x y),.int .i64 0]) else .returned (.tuple #[.string ⟨#[]⟩,.int .i64 2]))/\Below w.heap.size w w':=by
 have P:=qh c0;clear c0;have K:=qh o;clear o;have O:=qh c1;clear c1;have Q:=qh c2;clear c2;have T:=qh c3;clear c3;have j:(x.size<=400/\y.size<=400)\/(x.size<=400/\400<y.size)\/400<x.size:=by omega
 obtain⟨U,k⟩:∃ E:Ending,E=(if x.size<=400/\y.size<=400 then .returned (.tuple #[.string (txtM r x y),.int .i64 0]) else .returned (.tuple #[.string ⟨#[]⟩,.int .i64 2])):=⟨_,rfl⟩
 rw[<- k];have i:=qh k;clear k
 go_enter func102,ntmps102
 go_wp2_with fail
 refine(P.out _).mono ?_;rintro e N ⟨rfl,rfl⟩
 go_wp2_with fail
 refine(K.out _).mono ?_;rintro e N ⟨rfl,rfl⟩
 go_wp2_with fail
 refine(O.out _).mono ?_;rintro e N ⟨rfl,A⟩;have v:=qh A;clear A
 go_wp2_with fail
 refine(Q.out _).mono ?_;rintro e Y ⟨rfl,p⟩;have z:=qh (v.out.trans (p.mono v.out.size));clear p
 go_wp2_with fail
 refine(T.out _).mono ?_;rintro e W ⟨rfl,B⟩;have c:=qh (z.out.trans (B.mono z.out.size));clear B;clear hb
 rcases j with ⟨l,D⟩|⟨l,D⟩|l
 ·have d:=qh (show x.size<=400/\y.size<=400 from ⟨l,D⟩);have L:(x.size:Int)<=400:=by omega
  have S:(y.size:Int)<=400:=by omega
  have X:(x.size:Int)<=8388608:=by omega
  have Z:(y.size:Int)<=8388608:=by omega
  clear l D I J;by_cases C:y=⟨#[49]⟩
  ·subst C
   rcases F with ⟨rfl,rfl⟩|⟨rfl,G⟩
   ·go_wp2_with fail
    go_ret2;exact⟨by rw[i.out,if_pos d.out];rfl,c.out⟩
   cases r<;>simp only[Bool.not_true,Bool.not_false] at G
   ·go_wp2_with fail
    go_ret2;exact⟨by rw[i.out,if_pos d.out];rfl,c.out⟩
   go_wp2_with fail
   go_ret2;exact⟨by rw[i.out,if_pos d.out];rfl,c.out⟩
  have R:(y.toList==[49])=false:=z2k C;have H:=qh C;clear C
  rcases F with ⟨rfl,rfl⟩|⟨rfl,G⟩
  ·go_wp2_with fail
   go_ret2;exact⟨by rw[i.out,if_pos d.out];unfold txtM;rw[if_neg H.out];rfl,c.out⟩
  cases r<;>simp only[Bool.not_true,Bool.not_false] at G
  ·go_wp2_with fail
   go_ret2;exact⟨by rw[i.out,if_pos d.out];unfold txtM;rw[if_neg H.out];rfl,c.out⟩
  go_wp2_with fail
  go_ret2;exact⟨by rw[i.out,if_pos d.out];unfold txtM;rw[if_neg H.out];rfl,c.out⟩
 ·have d:=qh (show ¬ (x.size<=400/\y.size<=400) from fun h=>by omega);have L:(x.size:Int)<=400:=by omega
  have S:(400:Int)<(y.size:Int):=by omega
  clear l D I J F
  go_wp2_with fail
  go_ret2;exact⟨by rw[i.out,if_neg d.out];rfl,c.out⟩
 have d:=qh (show ¬ (x.size<=400/\y.size<=400) from fun h=>by omega);have L:(400:Int)<(x.size:Int):=by omega
 clear l I J F
 go_wp2_with fail
 go_ret2;exact⟨by rw[i.out,if_neg d.out];rfl,c.out⟩
theorem y3i (n:Nat):((str (dec n)).toList==[48])=decide (n=0):=by
 rw[str_eq,decide_eq_decide];exact⟨fun h=>z5v (h.trans z3w.symm),fun h=>by rw[h,z3w]⟩
theorem x7p {n:Nat} (h:n≠0):((str (dec n)).toList==[48])=false:=by
 rw[str_eq,decide_eq_false_iff_not];exact fun e=>h (z5v (e.trans z3w.symm))
theorem v4g (s:Bool) (m d:Nat) (w:World) (l:fits m) (i:fits d) (j:d≠0) :
  Calls prog 102 #[.bool s,.string (str (dec m)),.string (str (dec d))] w (PairEnd (limR (mkRat (sg s m) d)) w):=by
 obtain⟨o,e2,F⟩:=x1h (sg s m) d j;rw[x5x] at o e2;have v:fits (Nat.gcd m d):=z4t i (Nat.le_of_dvd (Nat.pos_of_ne_zero j) (Nat.gcd_dvd_right _ _));have c:Nat.gcd m d≠0:=by have:=Nat.gcd_pos_of_pos_right m (Nat.pos_of_ne_zero j);omega
 have D:fits (m / Nat.gcd m d):=z4t l (Nat.div_le_self _ _);have E:fits (d / Nat.gcd m d):=z4t i (Nat.div_le_self _ _);have z:∀ n,fits n->∀ g,Calls prog 142 #[.string (str (dec n))] g fun e r=>e=.returned (.bool true)/\g=r:=by
  intro n k g;have:=z1y (str (dec n)) g (z0z k);have p:z0w (bts (str (dec n)))=true:=z2r k;rw[p] at this;exact this
 have B:=v8p s (str (dec m)) (str (dec d)) (str (dec (Nat.gcd m d))) (str (dec (m / Nat.gcd m d))) (str (dec (d / Nat.gcd m d))) _ _ (negQ (mkRat (sg s m) d)) w ?_ (x7p j) ?_ ?_
  (z m l) (z d i) (fun g=>v4d m d g l i) (fun g=>v3f m _ g l v c) (fun g=>v3f d _ g i v c)
 ·refine B.mono ?_;rintro e r ⟨rfl,hb⟩;refine⟨?_,hb⟩;have u:fitQ (mkRat (sg s m) d)↔((str (dec (m / Nat.gcd m d))).size<=400/\(str (dec (d / Nat.gcd m d))).size<=400):=by
   unfold fitQ;rw[o,e2,z0s,z0s]
  have k:txt (mkRat (sg s m) d)=txtM (negQ (mkRat (sg s m) d)) (str (dec (m / Nat.gcd m d))) (str (dec (d / Nat.gcd m d))):=by
   rw[u3h,<- x6q,o,e2]
  by_cases h:fitQ (mkRat (sg s m) d)
  ·rw[z9x h,if_pos (u.1 h),k];rfl
  rw[y1h h,if_neg (fun e=>h (u.2 e))];rfl
 ·rw[F];cases s
  ·left;refine⟨rfl,?_⟩;rw[decide_eq_false_iff_not,x7c];simp
  right;refine⟨rfl,?_⟩
  rw[y3i];have C:m / Nat.gcd m d=0↔m=0:=by
   rw[Nat.div_eq_zero_iff]
   constructor
   ·intro h
    rcases h with h|h
    ·exact absurd h c
    by_cases A:m=0
    ·exact A
    have:=Nat.le_of_dvd (Nat.pos_of_ne_zero A) (Nat.gcd_dvd_left m d);omega
   intro h;right;rw[h];rw[h] at c;exact Nat.pos_of_ne_zero c
  rw[Bool.eq_iff_iff];simp only[decide_eq_true_eq,Bool.not_eq_true',decide_eq_false_iff_not,x7c,C];simp
 ·rw[z0s];exact D
 rw[z0s];exact E
end
section
open Go.RowKit
theorem z0q {fn:Func} {t u v x:Tmp} (h:fn.results=#[.tmp t,.tmp u,.tmp v,.tmp x]) (c:Array Value) (P:Program) (w:World) :
  (results fn c).run P w=.ok (.tuple #[c.getD t undef,c.getD u undef,c.getD v undef,c.getD x undef]) w:=by
 simp[results,h]
def Quad (ok neg:Bool) (n d:ByteArray):Value:=.tuple #[.bool (ok&&neg),.string (if ok then n else ⟨#[]⟩),.string (if ok then d else ⟨#[]⟩),.bool ok]
def okC (neg frac vn vd:Bool) (n d g:ByteArray):Bool:=vn&&vd&&!(d.toList==[48])&&!((n.toList==[48])&&(neg||frac))&&!((d.toList==[49])&&frac)&&((g.toList==[49])||(d.toList==[49]))
theorem u2m (c:UInt8) (h:c≠45):((c.toNat:Int)==45)=false:=by
 rw[beq_eq_false_iff_ne];intro e;apply h;apply UInt8.toNat_inj.1;show c.toNat=45;omega
theorem x8n (s r n d g:ByteArray) (neg v z A:Bool) (i:Nat) (w:World) (X:s.size<=9223372036854775807) (S:r.size<=9223372036854775807)
  (hs:(neg=false/\r=s/\(s.size=0\/∃ h:0<s.size,s[0]≠45))\/(neg=true/\r=s.extract 1 s.size/\∃ h:0<s.size,s[0]=45))
  (R:(v=false/\idxF r=-1/\n=r/\d=⟨#[49]⟩/\A=true/\(g.toList==[49])=true)\/(v=true/\idxF r=i/\i+1<=r.size/\n=r.extract 0 i/\d=r.extract (i+1) r.size))
  (c2:∀ wx,Calls prog 135 #[.string r,.int .u8 47] wx fun e w'=>e=.returned (.int .i64 (idxF r))/\Below wx.heap.size wx w')
  (c3:∀ wx,Calls prog 136 #[.string n] wx fun e w'=>e=.returned (.bool z)/\wx=w')
  (c4:∀ wx,Calls prog 136 #[.string d] wx fun e w'=>e=.returned (.bool A)/\wx=w')
  (c5:z=true->A=true->∀ wx,Calls prog 137 #[.string n,.string d] wx (StrZ g wx)) :
  Calls prog 99 #[.string s] w fun e w'=>e=.returned (Quad (okC neg v z A n d g) neg n d)/\Below w.heap.size w w':=by
 have I:=qh c2;clear c2;have J:=qh c3;clear c3;have K:=qh c4;clear c4;have B:=qh c5;clear c5;obtain⟨EE,C⟩:∃ E:Value,E=Quad (okC neg v z A n d g) neg n d:=⟨_,rfl⟩;rw[<- C];have p:=qh C;clear C;have b1:(s.size:Int)<=9223372036854775807:=by omega
 have b2:(r.size:Int)<=9223372036854775807:=by omega
 clear X S
 rcases hs with ⟨rfl,rfl,G|⟨hp,G⟩⟩|⟨rfl,hr,hp,G⟩
 ·-- empty
  rcases R with ⟨rfl,k,rfl,rfl,rfl,L⟩|⟨rfl,k,hi,H,F⟩
  ·have u:=qh k;clear k
   go_enter func99,ntmps99
   go_wp2_with fail
   refine(I.out _).mono ?_;rintro e O ⟨rfl,o⟩;have c:=qh o;clear o;rw[u.out]
   go_wp2_with fail
   refine(J.out _).mono ?_;rintro e w' ⟨rfl,rfl⟩;cases z
   ·-- no numerator
    go_wp2_with fail
    refine bodyPost_ret (z0q rfl _ _ _) rfl ⟨?_,c.out⟩;rw[p.out];simp[okC,Quad, *]
   go_wp2_with fail
   refine(K.out _).mono ?_;rintro e w' ⟨rfl,rfl⟩;cases N:(n.toList==[48])
   ·-- some
    go_wp2_with fail
    refine(B.out (by trivial) (by trivial) _).mono ?_;rintro e D ⟨rfl,j⟩;have l:=qh (c.out.trans (j.mono c.out.size));clear j
    go_wp2_with fail
    refine bodyPost_ret (z0q rfl _ _ _) rfl ⟨?_,l.out⟩;rw[p.out];simp[okC,Quad, *]
   go_wp2_with fail
   refine(B.out (by trivial) (by trivial) _).mono ?_;rintro e D ⟨rfl,j⟩;have l:=qh (c.out.trans (j.mono c.out.size));clear j
   go_wp2_with fail
   refine bodyPost_ret (z0q rfl _ _ _) rfl ⟨?_,l.out⟩;rw[p.out];simp[okC,Quad, *]
  exact absurd hi (by omega)
 ·have T:((r[0].toNat:Int)==45)=false:=u2m _ G;clear G
  rcases R with ⟨rfl,k,rfl,rfl,rfl,L⟩|⟨rfl,k,hi,H,F⟩
  ·have u:=qh k;clear k
   go_enter func99,ntmps99
   go_wp2_with fail
   refine(I.out _).mono ?_;rintro e O ⟨rfl,o⟩;have c:=qh o;clear o;rw[u.out]
   go_wp2_with fail
   refine(J.out _).mono ?_;rintro e w' ⟨rfl,rfl⟩;cases z
   ·-- no numerator
    go_wp2_with fail
    refine bodyPost_ret (z0q rfl _ _ _) rfl ⟨?_,c.out⟩;rw[p.out];simp[okC,Quad, *]
   go_wp2_with fail
   refine(K.out _).mono ?_;rintro e w' ⟨rfl,rfl⟩;cases N:(n.toList==[48])
   ·-- some
    go_wp2_with fail
    refine(B.out (by trivial) (by trivial) _).mono ?_;rintro e D ⟨rfl,j⟩;have l:=qh (c.out.trans (j.mono c.out.size));clear j
    go_wp2_with fail
    refine bodyPost_ret (z0q rfl _ _ _) rfl ⟨?_,l.out⟩;rw[p.out];simp[okC,Quad, *]
   go_wp2_with fail
   refine(B.out (by trivial) (by trivial) _).mono ?_;rintro e D ⟨rfl,j⟩;have l:=qh (c.out.trans (j.mono c.out.size));clear j
   go_wp2_with fail
   refine bodyPost_ret (z0q rfl _ _ _) rfl ⟨?_,l.out⟩;rw[p.out];simp[okC,Quad, *]
  have u:=qh k;clear k;have P:(0:Int)<=(i:Int):=by omega
  have a2:(i:Int)<=(r.size:Int):=by omega
  have Z:(0:Int)<=(i:Int)+1:=by omega
  have U:(i:Int)+1<=(r.size:Int):=by omega
  have a3:IntKind.i64.wrap ((i:Int)+1)=(i:Int)+1:=by rw[IntKind.wrap_i64];omega
  have Y:=qh H.symm;clear H;have Q:=qh F.symm;clear F hi
  go_enter func99,ntmps99
  go_wp2_with fail
  refine(I.out _).mono ?_;rintro e O ⟨rfl,o⟩;have c:=qh o;clear o;rw[u.out]
  go_wp2_with fail
  rw[Y.out,Q.out];refine(J.out _).mono ?_;rintro e w' ⟨rfl,rfl⟩;cases z
  ·-- no numerator
   go_wp2_with fail
   refine bodyPost_ret (z0q rfl _ _ _) rfl ⟨?_,c.out⟩;rw[p.out];simp[okC,Quad, *]
  go_wp2_with fail
  refine(K.out _).mono ?_;rintro e w' ⟨rfl,rfl⟩;cases A
  ·-- no denominator
   go_wp2_with fail
   refine bodyPost_ret (z0q rfl _ _ _) rfl ⟨?_,c.out⟩;rw[p.out];simp[okC,Quad, *]
  cases W:(d.toList==[48])
  ·-- not 0
   cases N:(n.toList==[48])
   ·-- some
    cases a1:(d.toList==[49])
    ·-- a denominator
     go_wp2_with fail
     refine(B.out (by trivial) (by trivial) _).mono ?_;rintro e D ⟨rfl,j⟩;have l:=qh (c.out.trans (j.mono c.out.size));clear j;cases hg:(g.toList==[49])
     ·-- no
      go_wp2_with fail
      refine bodyPost_ret (z0q rfl _ _ _) rfl ⟨?_,l.out⟩;rw[p.out];simp[okC,Quad, *]
     go_wp2_with fail
     refine bodyPost_ret (z0q rfl _ _ _) rfl ⟨?_,l.out⟩;rw[p.out];simp[okC,Quad, *]
    go_wp2_with fail
    refine bodyPost_ret (z0q rfl _ _ _) rfl ⟨?_,c.out⟩;rw[p.out];simp[okC,Quad, *]
   go_wp2_with fail
   refine bodyPost_ret (z0q rfl _ _ _) rfl ⟨?_,c.out⟩;rw[p.out];simp[okC,Quad, *]
  go_wp2_with fail
  refine bodyPost_ret (z0q rfl _ _ _) rfl ⟨?_,c.out⟩;rw[p.out];simp[okC,Quad, *]
 have T:((s[0].toNat:Int)==45)=true:=by rw[G];rfl
 have HR:=qh hr.symm;clear hr G;have a4:(1:Int)<=(s.size:Int):=by omega
 rcases R with ⟨rfl,k,rfl,rfl,rfl,L⟩|⟨rfl,k,hi,H,F⟩
 ·have u:=qh k;clear k
  go_enter func99,ntmps99
  go_wp2_with fail
  rw[HR.out];refine(I.out _).mono ?_;rintro e O ⟨rfl,o⟩;have c:=qh o;clear o;rw[u.out]
  go_wp2_with fail
  refine(J.out _).mono ?_;rintro e w' ⟨rfl,rfl⟩;cases z
  ·-- no numerator
   go_wp2_with fail
   refine bodyPost_ret (z0q rfl _ _ _) rfl ⟨?_,c.out⟩;rw[p.out];simp[okC,Quad, *]
  go_wp2_with fail
  refine(K.out _).mono ?_;rintro e w' ⟨rfl,rfl⟩;cases N:(n.toList==[48])
  ·-- some
   go_wp2_with fail
   refine(B.out (by trivial) (by trivial) _).mono ?_;rintro e D ⟨rfl,j⟩;have l:=qh (c.out.trans (j.mono c.out.size));clear j
   go_wp2_with fail
   refine bodyPost_ret (z0q rfl _ _ _) rfl ⟨?_,l.out⟩;rw[p.out];simp[okC,Quad, *]
  go_wp2_with fail
  refine bodyPost_ret (z0q rfl _ _ _) rfl ⟨?_,c.out⟩;rw[p.out];simp[okC,Quad, *]
 have u:=qh k;clear k;have P:(0:Int)<=(i:Int):=by omega
 have a2:(i:Int)<=(r.size:Int):=by omega
 have Z:(0:Int)<=(i:Int)+1:=by omega
 have U:(i:Int)+1<=(r.size:Int):=by omega
 have a3:IntKind.i64.wrap ((i:Int)+1)=(i:Int)+1:=by rw[IntKind.wrap_i64];omega
 have Y:=qh H.symm;clear H;have Q:=qh F.symm;clear F hi
 go_enter func99,ntmps99
 go_wp2_with fail
 rw[HR.out];refine(I.out _).mono ?_;rintro e O ⟨rfl,o⟩;have c:=qh o;clear o;rw[u.out]
 go_wp2_with fail
 rw[Y.out,Q.out];refine(J.out _).mono ?_;rintro e w' ⟨rfl,rfl⟩;cases z
 ·-- no numerator
  go_wp2_with fail
  refine bodyPost_ret (z0q rfl _ _ _) rfl ⟨?_,c.out⟩;rw[p.out];simp[okC,Quad, *]
 go_wp2_with fail
 refine(K.out _).mono ?_;rintro e w' ⟨rfl,rfl⟩;cases A
 ·-- no denominator
  go_wp2_with fail
  refine bodyPost_ret (z0q rfl _ _ _) rfl ⟨?_,c.out⟩;rw[p.out];simp[okC,Quad, *]
 cases W:(d.toList==[48])
 ·-- not 0
  cases N:(n.toList==[48])
  ·-- some
   cases a1:(d.toList==[49])
   ·-- a denominator
    go_wp2_with fail
    refine(B.out (by trivial) (by trivial) _).mono ?_;rintro e D ⟨rfl,j⟩;have l:=qh (c.out.trans (j.mono c.out.size));clear j;cases hg:(g.toList==[49])
    ·-- no
     go_wp2_with fail
     refine bodyPost_ret (z0q rfl _ _ _) rfl ⟨?_,l.out⟩;rw[p.out];simp[okC,Quad, *]
    go_wp2_with fail
    refine bodyPost_ret (z0q rfl _ _ _) rfl ⟨?_,l.out⟩;rw[p.out];simp[okC,Quad, *]
   go_wp2_with fail
   refine bodyPost_ret (z0q rfl _ _ _) rfl ⟨?_,c.out⟩;rw[p.out];simp[okC,Quad, *]
  go_wp2_with fail
  refine bodyPost_ret (z0q rfl _ _ _) rfl ⟨?_,c.out⟩;rw[p.out];simp[okC,Quad, *]
 go_wp2_with fail
 refine bodyPost_ret (z0q rfl _ _ _) rfl ⟨?_,c.out⟩;rw[p.out];simp[okC,Quad, *]
end
section
open Go.RowKit
def z3n (o:Option Rat):Value:=match o with
 | some q=>.tuple #[.bool (negQ q),.string (str (dec q.num.natAbs)),.string (str (dec q.den)),.bool true]
 | none=>.tuple #[.bool false,.string ⟨#[]⟩,.string ⟨#[]⟩,.bool false]
theorem v7w {r:ByteArray} (h:hasS (bts r)=true):r.extract 0 (upTo (bts r)).length=str (upTo (bts r)):=by
 have c:=z6c _ h
 apply z6y;rw[z6j,z1f];conv=>lhs;arg 2;arg 2;rw[c]
 rw[List.take_left,List.drop_zero]
theorem v4z {r:ByteArray} (h:hasS (bts r)=true):r.extract ((upTo (bts r)).length+1) r.size=str (z6p (bts r)):=by
 have c:=z6c _ h
 apply z6y;rw[z6j,z1f,List.take_of_length_le (by rw[z0j];omega)]
 conv=>lhs;arg 2;rw[c]
 rw[<- List.drop_drop,List.drop_left];rfl
theorem v6m {r:ByteArray} (h:hasS (bts r)=true):(upTo (bts r)).length+1<=r.size:=by
 have c:=congrArg List.length (z6c _ h);rw[z0j,List.length_append,List.length_cons] at c;omega
theorem u2e (j d k l g o c i neg:Bool) (h:j=true->d=true->g=true->i=true->c=true) :
  ((k&&j)&&(l&&d)&&!o&&!(g&&(neg||true))&&!(c&&true)&&(i||c))=(j&&d&&k&&l&&!(neg&&g)&&!(true&&(o||c))&&i):=by
 cases j<;>cases d<;>cases g<;>cases i<;>cases c<;>cases k<;>cases l<;>cases o<;>cases neg<;>first|rfl|(simp at h)
theorem v6p (d c g neg:Bool):((c&&d)&&true&&!false&&!(g&&(neg||false))&&!(true&&false)&&(true||true))=(d&&true&&c&&true&&!(neg&&g)&&!(false&&(false||true))&&true):=by
 cases d<;>cases g<;>cases c<;>cases neg<;>rfl
theorem y7x (n:Nat):decide (dec n=[49])=decide (n=1):=by
 rw[decide_eq_decide];exact⟨fun h=>z5v (h.trans z4i.symm),fun h=>by rw[h,z4i]⟩
theorem y8p (l r:List UInt8):(l==r)=decide (l=r):=by rw[Bool.eq_iff_iff];simp
theorem z5c (s:ByteArray) (w:World) (N:s.size<=9223372036854775807) :
  Calls prog 99 #[.string s] w fun e w'=>e=.returned (z3n (prs s))/\Below w.heap.size w w':=by
 obtain⟨r,z⟩:=exq (str (z1d (bts s)));have k:bts r=z1d (bts s):=by rw[z,z1f]
 have O:r.size<=s.size:=by
  rw[<- z0j,k];unfold z1d;split
  ·rw[List.length_tail,z0j];omega
  rw[z0j];omega
 have E:(str (denL (bts r))).size<=9223372036854775807:=by
  rw[z0s];unfold denL;split
  ·rename_i h;have:=congrArg List.length (z6c _ h);rw[z0j,List.length_append,List.length_cons] at this;omega
  show 1<=_;omega
 have D:(str (upTo (bts r))).size<=9223372036854775807:=by
  rw[z0s];have:=(List.takeWhile_sublist (· != 47) (l:=bts r)).length_le;rw[z0j] at this;unfold upTo;omega
 have L:=x8n s r (str (upTo (bts r))) (str (denL (bts r))) (str (dec (Nat.gcd (num (upTo (bts r))) (num (denL (bts r)))))) (z4f (bts s)) (hasS (bts r))
  (decide ((str (upTo (bts r))).size<=400)&&vld (str (upTo (bts r)))) (decide ((str (denL (bts r))).size<=400)&&vld (str (denL (bts r)))) (upTo (bts r)).length w N (by omega) ?_ ?_
  (fun j=>v1d r j (by omega)) (fun j=>x2d _ j D) (fun j=>x2d _ j E)
  (fun C v j=>by
   simp only[Bool.and_eq_true,decide_eq_true_eq] at C v;have v1:z0w (upTo (bts r))=true:=by have:=C.2;unfold vld at this;rw[z1f] at this;exact this
   have H:z0w (denL (bts r))=true:=by have:=v.2;unfold vld at this;rw[z1f] at this;exact this
   have p:=z3x v1;have e2:=z3x H;have P:fits (num (upTo (bts r))):=by unfold fits;rw[p];exact(z0m v1).2.1
   have Q:fits (num (denL (bts r))):=by unfold fits;rw[e2];exact(z0m H).2.1
   have:=v4d _ _ j P Q;rw[p,e2] at this;exact this)
 ·refine L.mono ?_;rintro e w' ⟨rfl,hb⟩;refine⟨?_,hb⟩;have B:okC (z4f (bts s)) (hasS (bts r)) (decide ((str (upTo (bts r))).size<=400)&&vld (str (upTo (bts r)))) (decide ((str (denL (bts r))).size<=400)&&vld (str (denL (bts r)))) (str (upTo (bts r))) (str (denL (bts r))) (str (dec (Nat.gcd (num (upTo (bts r))) (num (denL (bts r))))))
    = okP (z4f (bts s)) (upTo (bts r)) (denL (bts r)) (hasS (bts r)):=by
   unfold okC okP vld;rw[str_eq,str_eq,str_eq,str_eq,z0s,z0s,z1f,z1f,y7x,y8p,y8p,y8p];cases c:hasS (bts r)
   ·have i:denL (bts r)=[49]:=by unfold denL;rw[c];rfl
    rw[i];have p:decide (Nat.gcd (num (upTo (bts r))) (num [49])=1)=true:=by
     rw[decide_eq_true_eq];show Nat.gcd _ 1=1;exact Nat.gcd_one_right _
    have e2:z0w [49]=true:=by decide
    rw[p,e2];exact v6p _ _ _ _
   refine u2e _ _ _ _ _ _ _ _ _ ?_;intro C v G u;rw[decide_eq_true_eq] at G u ⊢;rw[G] at u;have:num (denL (bts r))=1:=by rw[show num [48]=0 from rfl,Nat.gcd_zero_left] at u;exact u
   rw[<- z3x v,this,z4i]
  rw[B,k];cases K:okP (z4f (bts s)) (upTo (z1d (bts s))) (denL (z1d (bts s))) (hasS (z1d (bts s)))
  ·have g:prs s=none:=by unfold prs prsL;rw[K];rfl
   rw[g];rfl
  have g:prs s=some (mkRat (sg (z4f (bts s)) (num (upTo (z1d (bts s))))) (num (denL (z1d (bts s))))):=by unfold prs prsL;rw[K];rfl
  have A:=(y6p g).2;rw[g];simp only[z3n,A.sign,A.top,A.bot];rfl
 ·by_cases J:s.size=0
  ·have F:bts s=[]:=List.length_eq_zero_iff.1 (by rw[z0j];exact J)
   left;refine⟨by rw[F];rfl,?_,.inl J⟩
   rw[z,F];apply z6y;rw[z1f,F];rfl
  have g:0<s.size:=by omega
  have I:=z9c s g;by_cases d:s[0]=45
  ·right
   have o:z4f (bts s)=true:=by unfold z4f;rw[I,d];rfl
   refine⟨o,?_,g,d⟩;rw[z];apply z6y;rw[z1f,z6j,List.take_of_length_le (by rw[z0j];omega)];unfold z1d;rw[o];cases bts s<;>rfl
  left
  have o:z4f (bts s)=false:=by unfold z4f;rw[I,beq_eq_false_iff_ne];exact d
  refine⟨o,?_,.inr ⟨g,d⟩⟩;rw[z];unfold z1d;rw[o];exact z8p s
 cases c:hasS (bts r)
 ·left
  have i:denL (bts r)=[49]:=by unfold denL;rw[c];rfl
  refine⟨rfl,by unfold idxF;rw[c];rfl,by rw[y4n _ c,z8p],by rw[i];rfl,?_,?_⟩
  ·rw[i];decide
  rw[i,str_eq,y7x,decide_eq_true_eq];exact Nat.gcd_one_right _
 right
 have i:denL (bts r)=z6p (bts r):=by unfold denL;rw[c];rfl
 exact⟨rfl,by unfold idxF;rw[c];rfl,v6m c,(v7w c).symm,by rw[i];exact(v4z c).symm⟩
theorem y0e (a:ByteArray) (w:World) (g:a.size<=9223372036854775807) :
  Calls prog 92 #[.string a] w fun e w'=>e=.returned (.bool (prs a).isSome)/\Below w.heap.size w w':=by
 have c:=z5c a w g;cases d:prs a with
 | none =>
  rw[d] at c;simp only[z3n] at c;have h:=qh c;clear c d g
  go_enter func92,ntmps92
  go_wp2_with fail
  refine h.out.mono ?_;rintro e w' ⟨rfl,hb⟩;have i:=qh hb;clear hb
  go_wp2_with fail
  go_ret;exact⟨rfl,i.out⟩
 | some q =>
  rw[d] at c;simp only[z3n] at c;have h:=qh c;clear c d g
  go_enter func92,ntmps92
  go_wp2_with fail
  refine h.out.mono ?_;rintro e w' ⟨rfl,hb⟩;have i:=qh hb;clear hb
  go_wp2_with fail
  go_ret;exact⟨rfl,i.out⟩
theorem y8m (a b:ByteArray) (w:World) (G:a.size<=9223372036854775807) (hb:b.size<=9223372036854775807) :
  Calls prog 48 #[.string a,.string b] w (PairEnd (z2m a b) w):=by
 have c1:=fun g=>z5c a g G;have c2:=fun g=>z5c b g hb;clear G hb;cases j:prs a with
 | none =>
  have l:z2m a b=(str [],1):=by unfold z2m;rw[j]
  rw[l];rw[j] at c1;simp only[z3n] at c1;have p:=qh c1;clear c1 j l;cases h:prs b
  ·rw[h] at c2;simp only[z3n] at c2;have o:=qh c2;clear c2 h
   go_enter func48,ntmps48
   go_wp2_with fail
   refine(p.out _).mono ?_;rintro e D ⟨rfl,hb⟩;have c:=qh (hb);clear hb
   go_wp2_with fail
   refine(o.out _).mono ?_;rintro e B ⟨rfl,hb⟩;have d:=qh (c.out.trans (hb.mono c.out.size));clear hb
   go_wp2_with fail
   go_ret2;exact⟨rfl,d.out⟩
  rw[h] at c2;simp only[z3n] at c2;have o:=qh c2;clear c2 h
  go_enter func48,ntmps48
  go_wp2_with fail
  refine(p.out _).mono ?_;rintro e D ⟨rfl,hb⟩;have c:=qh (hb);clear hb
  go_wp2_with fail
  refine(o.out _).mono ?_;rintro e B ⟨rfl,hb⟩;have d:=qh (c.out.trans (hb.mono c.out.size));clear hb
  go_wp2_with fail
  go_ret2;exact⟨rfl,d.out⟩
 | some x =>
  rw[j] at c1;simp only[z3n] at c1;have p:=qh c1;clear c1;have i:=(z3f j).2;cases h:prs b with
  | none =>
   have l:z2m a b=(str [],1):=by unfold z2m;rw[j,h]
   rw[l];rw[h] at c2;simp only[z3n] at c2;have o:=qh c2;clear c2 j h l i
   go_enter func48,ntmps48
   go_wp2_with fail
   refine(p.out _).mono ?_;rintro e D ⟨rfl,hb⟩;have c:=qh (hb);clear hb
   go_wp2_with fail
   refine(o.out _).mono ?_;rintro e B ⟨rfl,hb⟩;have d:=qh (c.out.trans (hb.mono c.out.size));clear hb
   go_wp2_with fail
   go_ret2;exact⟨rfl,d.out⟩
  | some y =>
   rw[h] at c2;simp only[z3n] at c2;have o:=qh c2;clear c2;have k:=(z3f h).2;have E:fits (x.num.natAbs*y.den):=z3c i.1 k.2;have H:fits (y.num.natAbs*x.den):=z3c k.1 i.2;have f3:fits (x.num.natAbs*y.den+y.num.natAbs*x.den):=y4c i.1 k.2 k.1 i.2;have A:fits (x.den*y.den):=z3c i.2 k.2;have l:z2m a b=limR (x+y):=by unfold z2m;rw[j,h]
   have z:=fun g=>v4g (sumF (negQ x) (x.num.natAbs*y.den) (negQ y) (y.num.natAbs*x.den)).1 (sumF (negQ x) (x.num.natAbs*y.den) (negQ y) (y.num.natAbs*x.den)).2 (x.den*y.den) g (z4t f3 (v5c _ _ _ _)) A (Nat.mul_ne_zero x.den_nz y.den_nz);rw[<- v9y x y] at z;rw[l];have c3:=fun g=>z7y _ _ g (z5t i) (z3p k) E;have c4:=fun g=>z7y _ _ g (z5t k) (z3p i) H;have c5:=fun g=>v4q (negQ x) (negQ y) _ _ g f3;have F:=fun g=>z7y _ _ g (z3p i) (z3p k) A;generalize limR (x+y)=lr at *;obtain⟨O,Q⟩:=lr;have J:=qh c3;clear c3;have L:=qh c4;clear c4;have I:=qh c5;clear c5;have N:=qh z;clear z;have K:=qh F;clear F j h l i k E H f3 A
   go_enter func48,ntmps48
   go_wp2_with fail
   refine(p.out _).mono ?_;rintro e D ⟨rfl,hb⟩;have c:=qh (hb);clear hb
   go_wp2_with fail
   refine(o.out _).mono ?_;rintro e B ⟨rfl,hb⟩;have d:=qh (c.out.trans (hb.mono c.out.size));clear hb
   go_wp2_with fail
   refine(J.out _).mono ?_;rintro e P ⟨rfl,hb⟩;have s:=qh (d.out.trans (hb.mono d.out.size));clear hb
   go_wp2_with fail
   refine(L.out _).mono ?_;rintro e T ⟨rfl,hb⟩;have r:=qh (s.out.trans (hb.mono s.out.size));clear hb
   go_wp2_with fail
   refine(I.out _).mono ?_;rintro e U ⟨rfl,hb⟩;have v:=qh (r.out.trans (hb.mono r.out.size));clear hb
   go_wp2_with fail
   refine(K.out _).mono ?_;rintro e R ⟨rfl,hb⟩;have u:=qh (v.out.trans (hb.mono v.out.size));clear hb
   go_wp2_with fail
   refine(N.out _).mono ?_;rintro e S ⟨rfl,hb⟩;have C:=qh (u.out.trans (hb.mono u.out.size));clear hb
   go_wp2_with fail
   go_ret2;exact⟨rfl,C.out⟩
theorem x5a (a b:ByteArray) (w:World) (D:a.size<=9223372036854775807) (hb:b.size<=9223372036854775807) :
  Calls prog 181 #[.string a,.string b] w (PairEnd (z5x a b) w):=by
 have c1:=fun i=>z5c a i D;have c2:=fun i=>z5c b i hb;clear D hb;cases h:prs a with
 | none =>
  have j:z5x a b=(str [],1):=by unfold z5x;rw[h]
  rw[j];rw[h] at c1;simp only[z3n] at c1;have o:=qh c1;clear c1 h j;cases g:prs b
  ·rw[g] at c2;simp only[z3n] at c2;have k:=qh c2;clear c2 g
   go_enter func181,ntmps181
   go_wp2_with fail
   refine(o.out _).mono ?_;rintro e B ⟨rfl,hb⟩;have c:=qh (hb);clear hb
   go_wp2_with fail
   refine(k.out _).mono ?_;rintro e z ⟨rfl,hb⟩;have d:=qh (c.out.trans (hb.mono c.out.size));clear hb
   go_wp2_with fail
   go_ret2;exact⟨rfl,d.out⟩
  rw[g] at c2;simp only[z3n] at c2;have k:=qh c2;clear c2 g
  go_enter func181,ntmps181
  go_wp2_with fail
  refine(o.out _).mono ?_;rintro e B ⟨rfl,hb⟩;have c:=qh (hb);clear hb
  go_wp2_with fail
  refine(k.out _).mono ?_;rintro e z ⟨rfl,hb⟩;have d:=qh (c.out.trans (hb.mono c.out.size));clear hb
  go_wp2_with fail
  go_ret2;exact⟨rfl,d.out⟩
 | some x =>
  rw[h] at c1;simp only[z3n] at c1;have o:=qh c1;clear c1;have l:=(z3f h).2;cases g:prs b with
  | none =>
   have j:z5x a b=(str [],1):=by unfold z5x;rw[h,g]
   rw[j];rw[g] at c2;simp only[z3n] at c2;have k:=qh c2;clear c2 h g j l
   go_enter func181,ntmps181
   go_wp2_with fail
   refine(o.out _).mono ?_;rintro e B ⟨rfl,hb⟩;have c:=qh (hb);clear hb
   go_wp2_with fail
   refine(k.out _).mono ?_;rintro e z ⟨rfl,hb⟩;have d:=qh (c.out.trans (hb.mono c.out.size));clear hb
   go_wp2_with fail
   go_ret2;exact⟨rfl,d.out⟩
  | some y =>
   rw[g] at c2;simp only[z3n] at c2;have k:=qh c2;clear c2;have s:=(z3f g).2;have u:fits (x.num.natAbs*y.num.natAbs):=z3c l.1 s.1;have A:fits (x.den*y.den):=z3c l.2 s.2;have j:z5x a b=limR (x*y):=by unfold z5x;rw[h,g]
   have v:=fun i=>v4g (negQ x != negQ y) (x.num.natAbs*y.num.natAbs) (x.den*y.den) i u A (Nat.mul_ne_zero x.den_nz y.den_nz);rw[<- u0a x y] at v;rw[j];have c3:=fun i=>z7y _ _ i (z5t l) (z5t s) u;have c4:=fun i=>z7y _ _ i (z3p l) (z3p s) A;generalize limR (x*y)=lr at *;obtain⟨H,J⟩:=lr;have E:=qh c3;clear c3;have F:=qh c4;clear c4;have G:=qh v;clear v h g j l s u A
   go_enter func181,ntmps181
   go_wp2_with fail
   refine(o.out _).mono ?_;rintro e B ⟨rfl,hb⟩;have c:=qh (hb);clear hb
   go_wp2_with fail
   refine(k.out _).mono ?_;rintro e z ⟨rfl,hb⟩;have d:=qh (c.out.trans (hb.mono c.out.size));clear hb
   go_wp2_with fail
   refine(E.out _).mono ?_;rintro e I ⟨rfl,hb⟩;have r:=qh (d.out.trans (hb.mono d.out.size));clear hb
   go_wp2_with fail
   refine(F.out _).mono ?_;rintro e K ⟨rfl,hb⟩;have p:=qh (r.out.trans (hb.mono r.out.size));clear hb
   go_wp2_with fail
   refine(G.out _).mono ?_;rintro e L ⟨rfl,hb⟩;have C:=qh (p.out.trans (hb.mono p.out.size));clear hb
   go_wp2_with fail
   go_ret2;exact⟨rfl,C.out⟩
theorem y4d (a b:ByteArray) (w:World) (K:a.size<=9223372036854775807) (hb:b.size<=9223372036854775807) :
  Calls prog 93 #[.string a,.string b] w (IntEnd (z3q a b) w):=by
 have c1:=fun o=>z5c a o K;have c2:=fun o=>z5c b o hb;clear K hb;cases l:prs a with
 | none =>
  have s:z3q a b=0:=by unfold z3q;rw[l]
  rw[s];rw[l] at c1;simp only[z3n] at c1;have u:=qh c1;clear c1 l s;cases i:prs b
  ·rw[i] at c2;simp only[z3n] at c2;have k:=qh c2;clear c2 i
   go_enter func93,ntmps93
   go_wp2_with fail
   refine(u.out _).mono ?_;rintro e B ⟨rfl,hb⟩;have c:=qh (hb);clear hb
   go_wp2_with fail
   refine(k.out _).mono ?_;rintro e A ⟨rfl,hb⟩;have d:=qh (c.out.trans (hb.mono c.out.size));clear hb
   go_wp2_with fail
   go_ret;exact⟨rfl,d.out⟩
  rw[i] at c2;simp only[z3n] at c2;have k:=qh c2;clear c2 i
  go_enter func93,ntmps93
  go_wp2_with fail
  refine(u.out _).mono ?_;rintro e B ⟨rfl,hb⟩;have c:=qh (hb);clear hb
  go_wp2_with fail
  refine(k.out _).mono ?_;rintro e A ⟨rfl,hb⟩;have d:=qh (c.out.trans (hb.mono c.out.size));clear hb
  go_wp2_with fail
  go_ret;exact⟨rfl,d.out⟩
 | some x =>
  rw[l] at c1;simp only[z3n] at c1;have u:=qh c1;clear c1;have p:=(z3f l).2;cases i:prs b with
  | none =>
   have s:z3q a b=0:=by unfold z3q;rw[l,i]
   rw[s];rw[i] at c2;simp only[z3n] at c2;have k:=qh c2;clear c2 l i s p
   go_enter func93,ntmps93
   go_wp2_with fail
   refine(u.out _).mono ?_;rintro e B ⟨rfl,hb⟩;have c:=qh (hb);clear hb
   go_wp2_with fail
   refine(k.out _).mono ?_;rintro e A ⟨rfl,hb⟩;have d:=qh (c.out.trans (hb.mono c.out.size));clear hb
   go_wp2_with fail
   go_ret;exact⟨rfl,d.out⟩
  | some y =>
   rw[i] at c2;simp only[z3n] at c2;have k:=qh c2;clear c2;have v:=(z3f i).2;have H:fits (x.num.natAbs*y.den):=z3c p.1 v.2;have N:fits (y.num.natAbs*x.den):=z3c v.1 p.2;have f3:fits (x.num.natAbs*y.den+y.num.natAbs*x.den):=y4c p.1 v.2 v.1 p.2;have s:z3q a b=cmpQ x y:=by unfold z3q;rw[l,i]
   rw[s,v8u x y];have c3:=fun o=>z7y _ _ o (z5t p) (z3p v) H;have c4:=fun o=>z7y _ _ o (z5t v) (z3p p) N;have c5:=fun o=>v4q (negQ x) (!negQ y) _ _ o f3;generalize sumF (negQ x) (x.num.natAbs*y.den) (!negQ y) (y.num.natAbs*x.den)=r at *;obtain⟨O,G⟩:=r;have F:=y3i G;simp only at c5 F ⊢;have D:=qh c3;clear c3;have E:=qh c4;clear c4;have C:=qh c5;clear c5 l i s p v H N f3;by_cases z:G=0
   ·rw[decide_eq_true z] at F;rw[if_pos z];clear z
    go_enter func93,ntmps93
    go_wp2_with fail
    refine(u.out _).mono ?_;rintro e B ⟨rfl,hb⟩;have c:=qh (hb);clear hb
    go_wp2_with fail
    refine(k.out _).mono ?_;rintro e A ⟨rfl,hb⟩;have d:=qh (c.out.trans (hb.mono c.out.size));clear hb
    go_wp2_with fail
    refine(D.out _).mono ?_;rintro e I ⟨rfl,hb⟩;have h:=qh (d.out.trans (hb.mono d.out.size));clear hb
    go_wp2_with fail
    refine(E.out _).mono ?_;rintro e J ⟨rfl,hb⟩;have g:=qh (h.out.trans (hb.mono h.out.size));clear hb
    go_wp2_with fail
    refine(C.out _).mono ?_;rintro e L ⟨rfl,hb⟩;have j:=qh (g.out.trans (hb.mono g.out.size));clear hb
    go_wp2_with fail
    go_ret;exact⟨rfl,j.out⟩
   rw[decide_eq_false z] at F;rw[if_neg z];clear z;cases O
   ·simp only[Bool.false_eq_true,if_false]
    go_enter func93,ntmps93
    go_wp2_with fail
    refine(u.out _).mono ?_;rintro e B ⟨rfl,hb⟩;have c:=qh (hb);clear hb
    go_wp2_with fail
    refine(k.out _).mono ?_;rintro e A ⟨rfl,hb⟩;have d:=qh (c.out.trans (hb.mono c.out.size));clear hb
    go_wp2_with fail
    refine(D.out _).mono ?_;rintro e I ⟨rfl,hb⟩;have h:=qh (d.out.trans (hb.mono d.out.size));clear hb
    go_wp2_with fail
    refine(E.out _).mono ?_;rintro e J ⟨rfl,hb⟩;have g:=qh (h.out.trans (hb.mono h.out.size));clear hb
    go_wp2_with fail
    refine(C.out _).mono ?_;rintro e L ⟨rfl,hb⟩;have j:=qh (g.out.trans (hb.mono g.out.size));clear hb
    go_wp2_with fail
    go_ret;exact⟨rfl,j.out⟩
   simp only[if_true]
   go_enter func93,ntmps93
   go_wp2_with fail
   refine(u.out _).mono ?_;rintro e B ⟨rfl,hb⟩;have c:=qh (hb);clear hb
   go_wp2_with fail
   refine(k.out _).mono ?_;rintro e A ⟨rfl,hb⟩;have d:=qh (c.out.trans (hb.mono c.out.size));clear hb
   go_wp2_with fail
   refine(D.out _).mono ?_;rintro e I ⟨rfl,hb⟩;have h:=qh (d.out.trans (hb.mono d.out.size));clear hb
   go_wp2_with fail
   refine(E.out _).mono ?_;rintro e J ⟨rfl,hb⟩;have g:=qh (h.out.trans (hb.mono h.out.size));clear hb
   go_wp2_with fail
   refine(C.out _).mono ?_;rintro e L ⟨rfl,hb⟩;have j:=qh (g.out.trans (hb.mono g.out.size));clear hb
   go_wp2_with fail
   go_ret;exact⟨rfl,j.out⟩
end
section
open Go.RowKit
theorem z7x (v u:V) (w:World) (A:fitV v) (r:fitV u):Calls prog 134 #[.string (vtxt v),.string (vtxt u)] w (IntEnd (cmpV v u) w):=by
 have F:∀ (a b:ByteArray) (z:Int) (j:z=0/\a=b\/a≠b) (c:a≠b->a≠infS->a≠lowS->b≠infS->b≠lowS->Calls prog 93 #[.string a,.string b] w (IntEnd z w))
   (p:a≠b->((a=lowS\/b=infS)/\z=-1)\/(a≠lowS/\b≠infS/\(b=lowS\/a=infS)/\z=1)\/(a≠lowS/\b≠infS/\b≠lowS/\a≠infS)),
   Calls prog 134 #[.string a,.string b] w (IntEnd z w):=by
  intro a b z j c p
  rcases j with ⟨rfl,rfl⟩|j
  ·clear c p
   go_enter func134,ntmps134
   go_wp2;go_ret;exact⟨rfl,Below.refl _ _⟩
  have Q:(a.toList==b.toList)=false:=by rw[beq_eq_false_iff_ne];exact x0j j
  have N:∀ s:ByteArray,s≠lowS->(s.toList==[45,105,110,102])=false:=fun s h=>z2k (l:=[45,105,110,102]) h;have O:∀ s:ByteArray,s≠infS->(s.toList==[105,110,102])=false:=fun s h=>z2k (l:=[105,110,102]) h;have D:=qh N;clear N;have I:=qh O;clear O
  rcases p j with ⟨d,rfl⟩|⟨d,o,k,rfl⟩|⟨d,o,k,B⟩
  ·clear c p;by_cases i:a=lowS
   ·have H:(a.toList==[45,105,110,102])=true:=by rw[i,z2n];rfl
    clear j d i
    go_enter func134,ntmps134
    go_wp2;go_ret;exact⟨rfl,Below.refl _ _⟩
   have H:=D.out a i;have e2:(b.toList==[105,110,102])=true:=by rw[d.resolve_left i,z1u];rfl
   clear j d i
   go_enter func134,ntmps134
   go_wp2;go_ret;exact⟨rfl,Below.refl _ _⟩
  ·clear c p;have H:=D.out a d;have e2:=I.out b o;by_cases g:b=lowS
   ·have P:(b.toList==[45,105,110,102])=true:=by rw[g,z2n];rfl
    cases K:(a.toList==[105,110,102])
    all_goals
     clear j d o k g
     go_enter func134,ntmps134
     go_wp2;go_ret;exact⟨rfl,Below.refl _ _⟩
   have P:=D.out b g;have K:(a.toList==[105,110,102])=true:=by rw[k.resolve_left g,z1u];rfl
   clear j d o k g
   go_enter func134,ntmps134
   go_wp2;go_ret;exact⟨rfl,Below.refl _ _⟩
  have H:=D.out a d;have e2:=I.out b o;have P:=D.out b k;have K:=I.out a B;have C:=qh (c j B d o k);clear c p j d o k B
  go_enter func134,ntmps134
  go_wp2_with fail
  refine C.out.mono ?_;rintro e S ⟨rfl,hb⟩;have R:=qh hb;clear hb;go_wp2;go_ret;exact⟨rfl,R.out⟩
 refine F _ _ _ ?_ ?_ ?_
 ·by_cases h:v=u
  ·subst h;exact .inl ⟨(y1k v v).2 rfl,rfl⟩
  exact .inr (fun e=>h (x0a A r e))
 ·intro _ d o k B;cases v with
  | inf=>exact absurd rfl d
  | low=>exact absurd rfl o
  | fin x =>
   cases u with
   | inf=>exact absurd rfl k
   | low=>exact absurd rfl B
   | fin y =>
    have L:=y4d (txt x) (txt y) w (by have:=z3k A;omega) (by have:=z3k r;omega);rw[x0x A r] at L;exact L
 intro h;have E:infS≠lowS:=by decide
 have J:∀ q:Rat,fitQ q->txt q≠infS:=fun q G e=>by have:=z7n G;rw[e,z1u] at this;simp at this
 have fl:∀ q:Rat,fitQ q->txt q≠lowS:=fun q G e=>by have:=y3a G;rw[e,z2n] at this;simp at this
 cases v with
 | inf =>
  cases u with
  | inf=>exact absurd rfl h
  | low=>exact .inr (.inl ⟨E,Ne.symm E,.inl rfl,rfl⟩)
  | fin y=>exact .inr (.inl ⟨E,J y r,.inr rfl,rfl⟩)
 | low =>
  cases u with
  | inf=>exact .inl ⟨.inl rfl,rfl⟩
  | low=>exact absurd rfl h
  | fin y=>exact .inl ⟨.inl rfl,rfl⟩
 | fin x =>
  cases u with
  | inf=>exact .inl ⟨.inr rfl,rfl⟩
  | low=>exact .inr (.inl ⟨fl x A,Ne.symm E,.inl rfl,rfl⟩)
  | fin y=>exact .inr (.inr ⟨fl x A,J y r,fl y r,J x A⟩)
end
section
open Go.RowKit
theorem kind1:z8i 1=true:=rfl
theorem kind2:z8i 2=true:=rfl
theorem kind3:z8i 3=true:=rfl
theorem z1w (k:Int) (w:World):Calls prog 53 #[.int .i64 k] w fun e w'=>e=.returned (.bool (z8i k))/\w=w':=by
 rcases z1x k with rfl|rfl|rfl|c
 ·rw[kind1]
  go_enter func53,ntmps53
  go_wp2_with fail
  go_ret;exact⟨rfl,rfl⟩
 ·rw[kind2]
  go_enter func53,ntmps53
  go_wp2_with fail
  go_ret;exact⟨rfl,rfl⟩
 ·rw[kind3]
  go_enter func53,ntmps53
  go_wp2_with fail
  go_ret;exact⟨rfl,rfl⟩
 rw[y5r c]
 rcases c with c|c
 ·have d:decide (1<=k)=false:=by rw[decide_eq_false_iff_not];omega
  clear c
  go_enter func53,ntmps53
  go_wp2_with fail
  go_ret;exact⟨rfl,rfl⟩
 have d:decide (1<=k)=true:=by rw[decide_eq_true_eq];omega
 have h:decide (k<=3)=false:=by rw[decide_eq_false_iff_not];omega
 have g:(1:Int)<=k:=by omega
 clear c
 go_enter func53,ntmps53
 go_wp2_with fail
 go_ret;exact⟨rfl,rfl⟩
theorem v1h (a:ByteArray) (w:World) (i:a.size<=9223372036854775807):Calls prog 105 #[.int .i64 1,.string a] w (BoolE (z0f 1 a) w):=by
 by_cases c:a=infS
 ·have s:(a.toList==[105,110,102])=true:=by rw[c,z1u];rfl
  have h:z0f 1 a=true:=by rw[c];exact z6d (by omega)
  rw[h];clear h c i
  go_enter func105,ntmps105
  go_wp2_with fail
  refine(z1w _ _).mono ?_;rintro e k ⟨rfl,rfl⟩;rw[kind1]
  go_wp2_with fail
  go_ret;exact⟨rfl,Below.refl _ _⟩
 have s:(a.toList==[105,110,102])=false:=z2k (l:=[105,110,102]) c;by_cases d:a=lowS
 ·have e2:(a.toList==[45,105,110,102])=true:=by rw[d,z2n];rfl
  have h:z0f 1 a=true:=by rw[d];exact y5g
  rw[h];clear h c d i
  go_enter func105,ntmps105
  go_wp2_with fail
  refine(z1w _ _).mono ?_;rintro e k ⟨rfl,rfl⟩;rw[kind1]
  go_wp2_with fail
  go_ret;exact⟨rfl,Below.refl _ _⟩
 have e2:(a.toList==[45,105,110,102])=false:=z2k (l:=[45,105,110,102]) d;have c1:=fun r=>y0e a r i;rw[x5f c d];generalize (prs a).isSome=o at *;clear c d;have p:=qh c1;clear c1 i;cases o
 all_goals
  go_enter func105,ntmps105
  go_wp2_with fail
  refine(z1w _ _).mono ?_;rintro e k ⟨rfl,rfl⟩;rw[kind1]
  go_wp2_with fail
  have g:=p.out w;refine g.mono ?_;clear g;rintro e u ⟨rfl,hb⟩;have j:=qh (hb);clear hb
  go_wp2_with fail
  go_ret;exact⟨rfl,j.out⟩
theorem v3w (a:ByteArray) (w:World) (k:a.size<=9223372036854775807):Calls prog 105 #[.int .i64 2,.string a] w (BoolE (z0f 2 a) w):=by
 by_cases i:a=infS
 ·have D:(a.toList==[105,110,102])=true:=by rw[i,z1u];rfl
  have d:z0f 2 a=true:=by rw[i];exact z6d (by omega)
  rw[d];clear d i k
  go_enter func105,ntmps105
  go_wp2_with fail
  refine(z1w _ _).mono ?_;rintro e s ⟨rfl,rfl⟩;rw[kind2]
  go_wp2_with fail
  go_ret;exact⟨rfl,Below.refl _ _⟩
 have D:(a.toList==[105,110,102])=false:=z2k (l:=[105,110,102]) i;by_cases p:a=lowS
 ·have e2:(a.toList==[45,105,110,102])=true:=by rw[p,z2n];rfl
  have d:z0f 2 a=false:=by rw[p];decide +kernel
  rw[d];clear d i p k
  go_enter func105,ntmps105
  go_wp2_with fail
  refine(z1w _ _).mono ?_;rintro e s ⟨rfl,rfl⟩;rw[kind2]
  go_wp2_with fail
  go_ret;exact⟨rfl,Below.refl _ _⟩
 have e2:(a.toList==[45,105,110,102])=false:=z2k (l:=[45,105,110,102]) p;have c1:=fun v=>y0e a v k;rw[y1f (by omega) i];clear i p;cases g:prs a with
 | none =>
  have d:natB a=false:=by unfold natB;rw[g]
  rw[d];rw[g] at c1;simp only[Option.isSome] at c1;have r:=qh c1;clear c1 k g d
  go_enter func105,ntmps105
  go_wp2_with fail
  refine(z1w _ _).mono ?_;rintro e s ⟨rfl,rfl⟩;rw[kind2]
  go_wp2_with fail
  have c:=r.out w;refine c.mono ?_;clear c;rintro e B ⟨rfl,hb⟩;have j:=qh (hb);clear hb
  go_wp2_with fail
  go_ret;exact⟨rfl,j.out⟩
 | some q =>
  have d:natB a=decide (0<=q):=by unfold natB;rw[g]
  have c2:=fun v=>y4d a ⟨#[48]⟩ v k (by decide);rw[z9g g] at c2;rw[d];rw[g] at c1;simp only[Option.isSome] at c1;have A:(decide (0<=q)=decide (0<=cmpQ q 0)):=by
   rcases z1c q 0 with ⟨h,e⟩|⟨h,e⟩|⟨h,e⟩<;>rw[e]
   ·rw[decide_eq_decide];simp;exact Rat.not_le.2 h
   ·subst h;rfl
   rw[decide_eq_decide];simp;exact Rat.le_of_lt h
  rw[A];have C:cmpQ q 0=-1\/cmpQ q 0=0\/cmpQ q 0=1:=by rcases z1c q 0 with ⟨h,e⟩|⟨h,e⟩|⟨h,e⟩<;>simp[e]
  generalize cmpQ q 0=z at *;have r:=qh c1;clear c1;have E:=qh c2;clear c2 k g d A
  rcases C with rfl|rfl|rfl
  all_goals
   go_enter func105,ntmps105
   go_wp2_with fail
   refine(z1w _ _).mono ?_;rintro e s ⟨rfl,rfl⟩;rw[kind2]
   go_wp2_with fail
   have c:=r.out w;refine c.mono ?_;clear c;rintro e B ⟨rfl,hb⟩;have j:=qh (hb);clear hb
   go_wp2_with fail
   have o:=E.out B;refine o.mono ?_;clear o;rintro e F ⟨rfl,hb⟩;have u:=qh (z0a j.out hb);clear hb
   go_wp2_with fail
   go_ret;exact⟨rfl,u.out⟩
theorem v3x (a:ByteArray) (w:World) (k:a.size<=9223372036854775807):Calls prog 105 #[.int .i64 3,.string a] w (BoolE (z0f 3 a) w):=by
 by_cases i:a=infS
 ·have D:(a.toList==[105,110,102])=true:=by rw[i,z1u];rfl
  have d:z0f 3 a=true:=by rw[i];exact z6d (by omega)
  rw[d];clear d i k
  go_enter func105,ntmps105
  go_wp2_with fail
  refine(z1w _ _).mono ?_;rintro e s ⟨rfl,rfl⟩;rw[kind3]
  go_wp2_with fail
  go_ret;exact⟨rfl,Below.refl _ _⟩
 have D:(a.toList==[105,110,102])=false:=z2k (l:=[105,110,102]) i;by_cases p:a=lowS
 ·have e2:(a.toList==[45,105,110,102])=true:=by rw[p,z2n];rfl
  have d:z0f 3 a=false:=by rw[p];decide +kernel
  rw[d];clear d i p k
  go_enter func105,ntmps105
  go_wp2_with fail
  refine(z1w _ _).mono ?_;rintro e s ⟨rfl,rfl⟩;rw[kind3]
  go_wp2_with fail
  go_ret;exact⟨rfl,Below.refl _ _⟩
 have e2:(a.toList==[45,105,110,102])=false:=z2k (l:=[45,105,110,102]) p;have c1:=fun v=>y0e a v k;rw[y1f (by omega) i];clear i p;cases g:prs a with
 | none =>
  have d:natB a=false:=by unfold natB;rw[g]
  rw[d];rw[g] at c1;simp only[Option.isSome] at c1;have r:=qh c1;clear c1 k g d
  go_enter func105,ntmps105
  go_wp2_with fail
  refine(z1w _ _).mono ?_;rintro e s ⟨rfl,rfl⟩;rw[kind3]
  go_wp2_with fail
  have c:=r.out w;refine c.mono ?_;clear c;rintro e B ⟨rfl,hb⟩;have j:=qh (hb);clear hb
  go_wp2_with fail
  go_ret;exact⟨rfl,j.out⟩
 | some q =>
  have d:natB a=decide (0<=q):=by unfold natB;rw[g]
  have c2:=fun v=>y4d a ⟨#[48]⟩ v k (by decide);rw[z9g g] at c2;rw[d];rw[g] at c1;simp only[Option.isSome] at c1;have A:(decide (0<=q)=decide (0<=cmpQ q 0)):=by
   rcases z1c q 0 with ⟨h,e⟩|⟨h,e⟩|⟨h,e⟩<;>rw[e]
   ·rw[decide_eq_decide];simp;exact Rat.not_le.2 h
   ·subst h;rfl
   rw[decide_eq_decide];simp;exact Rat.le_of_lt h
  rw[A];have C:cmpQ q 0=-1\/cmpQ q 0=0\/cmpQ q 0=1:=by rcases z1c q 0 with ⟨h,e⟩|⟨h,e⟩|⟨h,e⟩<;>simp[e]
  generalize cmpQ q 0=z at *;have r:=qh c1;clear c1;have E:=qh c2;clear c2 k g d A
  rcases C with rfl|rfl|rfl
  all_goals
   go_enter func105,ntmps105
   go_wp2_with fail
   refine(z1w _ _).mono ?_;rintro e s ⟨rfl,rfl⟩;rw[kind3]
   go_wp2_with fail
   have c:=r.out w;refine c.mono ?_;clear c;rintro e B ⟨rfl,hb⟩;have j:=qh (hb);clear hb
   go_wp2_with fail
   have o:=E.out B;refine o.mono ?_;clear o;rintro e F ⟨rfl,hb⟩;have u:=qh (z0a j.out hb);clear hb
   go_wp2_with fail
   go_ret;exact⟨rfl,u.out⟩
theorem x7d (k:Int) (a:ByteArray) (w:World) (c:k<1\/3<k):Calls prog 105 #[.int .i64 k,.string a] w (BoolE (z0f k a) w):=by
 rw[z6h c];have d:=qh (y5r c);clear c
 go_enter func105,ntmps105
 go_wp2_with fail
 refine(z1w _ _).mono ?_;rintro e g ⟨rfl,rfl⟩;rw[d.out]
 go_wp2_with fail
 go_ret;exact⟨rfl,Below.refl _ _⟩
theorem z0i (k:Int) (a:ByteArray) (w:World) (c:a.size<=9223372036854775807):Calls prog 105 #[.int .i64 k,.string a] w (BoolE (z0f k a) w):=by
 rcases z1x k with rfl|rfl|rfl|d
 ·exact v1h a w c
 ·exact v3w a w c
 ·exact v3x a w c
 exact x7d k a w d
theorem z8t (k:Int) (a:ByteArray):z0r k a=(z0f k a&&!(a.toList==[105,110,102])&&!(a.toList==[45,105,110,102])&&(k==1||!(a.toList==[48]))):=by
 cases c:rdV a with
 | none =>
  have j:z0f k a=false:=by unfold z0f vprs;rw[c];rfl
  have l:z0r k a=false:=by unfold z0r;rw[c]
  rw[j,l];rfl
 | some v =>
  obtain⟨o,i⟩:=z8f c;have j:z0f k a=decide (okV k v):=by
   unfold z0f vprs;rw[c];cases h:decide (okV k v)<;>simp[Option.filter,h]
  have l:z0r k a=decide (wtV k v):=by unfold z0r;rw[c]
  rw[j,l,o,y0p i,y2h i,z7h i];rw[Bool.eq_iff_iff];simp only[Bool.and_eq_true,Bool.or_eq_true,Bool.not_eq_true',decide_eq_true_eq,decide_eq_false_iff_not,beq_iff_eq];cases v with
  | inf=>simp[wtV]
  | low=>simp[wtV]
  | fin q =>
   simp only[wtV,okV,V.fin.injEq]
   constructor
   ·intro h
    rcases h with h|⟨h,d⟩
    ·exact⟨⟨⟨.inl h,by simp⟩,by simp⟩,.inl h⟩
    exact⟨⟨⟨.inr ⟨h,Rat.le_of_lt d⟩,by simp⟩,by simp⟩,.inr (Rat.ne_of_gt d)⟩
   rintro⟨⟨⟨h,_⟩,_⟩,p⟩;by_cases g:k=1
   ·exact .inl g
   right
   rcases h with h|⟨h,d⟩
   ·exact absurd h g
   refine⟨h,Rat.lt_of_le_of_ne d (Ne.symm (p.resolve_left g))⟩
theorem x7y (a:ByteArray) (w:World) (i:a.size<=9223372036854775807):Calls prog 54 #[.int .i64 1,.string a] w (BoolE (z0r 1 a) w):=by
 have c1:=fun j=>z0i 1 a j i;rw[z8t];generalize z0f 1 a=o at *;have g:=qh c1;clear c1 i;cases o
 ·simp only[Bool.false_and]
  go_enter func54,ntmps54
  go_wp2_with fail
  have c:=g.out w;refine c.mono ?_;clear c;rintro e h ⟨rfl,hb⟩;have d:=qh (hb);clear hb
  go_wp2_with fail
  go_ret;exact⟨rfl,d.out⟩
 cases k:(a.toList==[105,110,102])
 ·cases e2:(a.toList==[45,105,110,102])
  ·simp only[show ((1:Int)==1)=true from rfl,Bool.not_false,Bool.true_and,Bool.true_or]
   go_enter func54,ntmps54
   go_wp2_with fail
   have c:=g.out w;refine c.mono ?_;clear c;rintro e h ⟨rfl,hb⟩;have d:=qh (hb);clear hb
   go_wp2_with fail
   go_ret;exact⟨rfl,d.out⟩
  simp only[Bool.not_true,Bool.and_false,Bool.false_and]
  go_enter func54,ntmps54
  go_wp2_with fail
  have c:=g.out w;refine c.mono ?_;clear c;rintro e h ⟨rfl,hb⟩;have d:=qh (hb);clear hb
  go_wp2_with fail
  go_ret;exact⟨rfl,d.out⟩
 simp only[Bool.not_true,Bool.and_false,Bool.false_and]
 go_enter func54,ntmps54
 go_wp2_with fail
 have c:=g.out w;refine c.mono ?_;clear c;rintro e h ⟨rfl,hb⟩;have d:=qh (hb);clear hb
 go_wp2_with fail
 go_ret;exact⟨rfl,d.out⟩
theorem x7m (a:ByteArray) (w:World) (i:a.size<=9223372036854775807):Calls prog 54 #[.int .i64 2,.string a] w (BoolE (z0r 2 a) w):=by
 have c1:=fun j=>z0i 2 a j i;rw[z8t];generalize z0f 2 a=o at *;have g:=qh c1;clear c1 i;cases o
 ·simp only[Bool.false_and]
  go_enter func54,ntmps54
  go_wp2_with fail
  have c:=g.out w;refine c.mono ?_;clear c;rintro e h ⟨rfl,hb⟩;have d:=qh (hb);clear hb
  go_wp2_with fail
  go_ret;exact⟨rfl,d.out⟩
 cases l:(a.toList==[105,110,102])
 ·cases e2:(a.toList==[45,105,110,102])
  ·simp only[show ((2:Int)==1)=false from rfl,Bool.not_false,Bool.true_and,Bool.false_or];cases k:(a.toList==[48])
   all_goals
    go_enter func54,ntmps54
    go_wp2_with fail
    have c:=g.out w;refine c.mono ?_;clear c;rintro e h ⟨rfl,hb⟩;have d:=qh (hb);clear hb
    go_wp2_with fail
    go_ret;exact⟨rfl,d.out⟩
  simp only[Bool.not_true,Bool.and_false,Bool.false_and]
  go_enter func54,ntmps54
  go_wp2_with fail
  have c:=g.out w;refine c.mono ?_;clear c;rintro e h ⟨rfl,hb⟩;have d:=qh (hb);clear hb
  go_wp2_with fail
  go_ret;exact⟨rfl,d.out⟩
 simp only[Bool.not_true,Bool.and_false,Bool.false_and]
 go_enter func54,ntmps54
 go_wp2_with fail
 have c:=g.out w;refine c.mono ?_;clear c;rintro e h ⟨rfl,hb⟩;have d:=qh (hb);clear hb
 go_wp2_with fail
 go_ret;exact⟨rfl,d.out⟩
theorem x9g (a:ByteArray) (w:World) (i:a.size<=9223372036854775807):Calls prog 54 #[.int .i64 3,.string a] w (BoolE (z0r 3 a) w):=by
 have c1:=fun j=>z0i 3 a j i;rw[z8t];generalize z0f 3 a=o at *;have g:=qh c1;clear c1 i;cases o
 ·simp only[Bool.false_and]
  go_enter func54,ntmps54
  go_wp2_with fail
  have c:=g.out w;refine c.mono ?_;clear c;rintro e h ⟨rfl,hb⟩;have d:=qh (hb);clear hb
  go_wp2_with fail
  go_ret;exact⟨rfl,d.out⟩
 cases l:(a.toList==[105,110,102])
 ·cases e2:(a.toList==[45,105,110,102])
  ·simp only[show ((3:Int)==1)=false from rfl,Bool.not_false,Bool.true_and,Bool.false_or];cases k:(a.toList==[48])
   all_goals
    go_enter func54,ntmps54
    go_wp2_with fail
    have c:=g.out w;refine c.mono ?_;clear c;rintro e h ⟨rfl,hb⟩;have d:=qh (hb);clear hb
    go_wp2_with fail
    go_ret;exact⟨rfl,d.out⟩
  simp only[Bool.not_true,Bool.and_false,Bool.false_and]
  go_enter func54,ntmps54
  go_wp2_with fail
  have c:=g.out w;refine c.mono ?_;clear c;rintro e h ⟨rfl,hb⟩;have d:=qh (hb);clear hb
  go_wp2_with fail
  go_ret;exact⟨rfl,d.out⟩
 simp only[Bool.not_true,Bool.and_false,Bool.false_and]
 go_enter func54,ntmps54
 go_wp2_with fail
 have c:=g.out w;refine c.mono ?_;clear c;rintro e h ⟨rfl,hb⟩;have d:=qh (hb);clear hb
 go_wp2_with fail
 go_ret;exact⟨rfl,d.out⟩
theorem x3a (k:Int) (a:ByteArray) (w:World) (h:a.size<=9223372036854775807) (d:k<1\/3<k):Calls prog 54 #[.int .i64 k,.string a] w (BoolE (z0r k a) w):=by
 have c1:=fun j=>z0i k a j h;rw[y7u d];rw[z6h d] at c1;have i:=qh c1;clear c1 h d
 go_enter func54,ntmps54
 go_wp2_with fail
 have c:=i.out w;refine c.mono ?_;clear c;rintro e l ⟨rfl,hb⟩;have g:=qh (hb);clear hb
 go_wp2_with fail
 go_ret;exact⟨rfl,g.out⟩
theorem z6s (k:Int) (a:ByteArray) (w:World) (c:a.size<=9223372036854775807):Calls prog 54 #[.int .i64 k,.string a] w (BoolE (z0r k a) w):=by
 rcases z1x k with rfl|rfl|rfl|d
 ·exact x7y a w c
 ·exact x7m a w c
 ·exact x9g a w c
 exact x3a k a w c d
theorem v5v (w:World):Calls prog 45 #[.int .i64 1] w (StrE (z2b 1) w):=by
 rw[x0b]
 go_enter func45,ntmps45
 go_wp2_with fail
 refine(z1w _ _).mono ?_;rintro e c ⟨rfl,rfl⟩;rw[kind1]
 go_wp2_with fail
 go_ret;exact⟨rfl,Below.refl _ _⟩
theorem v5w (w:World):Calls prog 45 #[.int .i64 2] w (StrE (z2b 2) w):=by
 rw[y9r]
 go_enter func45,ntmps45
 go_wp2_with fail
 refine(z1w _ _).mono ?_;rintro e c ⟨rfl,rfl⟩;rw[kind2]
 go_wp2_with fail
 go_ret;exact⟨rfl,Below.refl _ _⟩
theorem v8d (w:World):Calls prog 45 #[.int .i64 3] w (StrE (z2b 3) w):=by
 rw[y9f]
 go_enter func45,ntmps45
 go_wp2_with fail
 refine(z1w _ _).mono ?_;rintro e c ⟨rfl,rfl⟩;rw[kind3]
 go_wp2_with fail
 go_ret;exact⟨rfl,Below.refl _ _⟩
theorem v3a (k:Int) (w:World) (c:k<1\/3<k):Calls prog 45 #[.int .i64 k] w (StrE (z2b k) w):=by
 rw[y8q c];have d:=qh (y5r c);clear c
 go_enter func45,ntmps45
 go_wp2_with fail
 refine(z1w _ _).mono ?_;rintro e g ⟨rfl,rfl⟩;rw[d.out]
 go_wp2_with fail
 go_ret;exact⟨rfl,Below.refl _ _⟩
theorem z5e (k:Int) (w:World):Calls prog 45 #[.int .i64 k] w (StrE (z2b k) w):=by
 rcases z1x k with rfl|rfl|rfl|c
 ·exact v5v w
 ·exact v5w w
 ·exact v8d w
 exact v3a k w c
theorem x8t (a b:ByteArray) (w:World) (B:a.size<=9223372036854775807) (hb:b.size<=9223372036854775807) (k:z0f 1 a=true) (p:z0f 1 b=true):Calls prog 98 #[.int .i64 1,.string a,.string b] w (IntEnd (z1a 1 a b) w):=by
 have c1:=fun d=>z0i 1 a d B;have c2:=fun d=>z0i 1 b d hb;rw[k] at c1;rw[p] at c2;obtain⟨v,D,rv,H,A,i⟩:=z1j k;obtain⟨u,s,L,J,C,z⟩:=z1j p;have F:=qh c1;clear c1;have G:=qh c2;clear c2;have E:z1a 1 a b=cmpV v u:=by unfold z1a;rw[D,s];rfl
 have c3:=fun d=>z7x v u d i z;rw[<- A,<- C,<- E] at c3;generalize z1a 1 a b=r at *;have I:=qh c3;clear c3 E D rv H A i s L J C z B hb k p
 go_enter func98,ntmps98
 go_wp2_with fail
 have g:=F.out w;refine g.mono ?_;clear g;rintro e N ⟨rfl,hb⟩;have l:=qh (hb);clear hb
 go_wp2_with fail
 have h:=G.out N;refine h.mono ?_;clear h;rintro e K ⟨rfl,hb⟩;have o:=qh (z0a l.out hb);clear hb
 go_wp2_with fail
 have c:=I.out K;refine c.mono ?_;clear c;rintro e O ⟨rfl,hb⟩;have j:=qh (z0a o.out hb);clear hb
 go_wp2_with fail
 go_ret;exact⟨rfl,j.out⟩
theorem x9e (a b:ByteArray) (w:World) (B:a.size<=9223372036854775807) (hb:b.size<=9223372036854775807) (k:z0f 2 a=true) (p:z0f 2 b=true):Calls prog 98 #[.int .i64 2,.string a,.string b] w (IntEnd (z1a 2 a b) w):=by
 have c1:=fun d=>z0i 2 a d B;have c2:=fun d=>z0i 2 b d hb;rw[k] at c1;rw[p] at c2;obtain⟨v,D,rv,H,A,i⟩:=z1j k;obtain⟨u,s,L,J,C,z⟩:=z1j p;have F:=qh c1;clear c1;have G:=qh c2;clear c2;have E:z1a 2 a b=cmpV u v:=by unfold z1a;rw[D,s];rfl
 have c3:=fun d=>z7x u v d z i;rw[<- A,<- C,<- E] at c3;generalize z1a 2 a b=r at *;have I:=qh c3;clear c3 E D rv H A i s L J C z B hb k p
 go_enter func98,ntmps98
 go_wp2_with fail
 have g:=F.out w;refine g.mono ?_;clear g;rintro e N ⟨rfl,hb⟩;have l:=qh (hb);clear hb
 go_wp2_with fail
 have h:=G.out N;refine h.mono ?_;clear h;rintro e K ⟨rfl,hb⟩;have o:=qh (z0a l.out hb);clear hb
 go_wp2_with fail
 have c:=I.out K;refine c.mono ?_;clear c;rintro e O ⟨rfl,hb⟩;have j:=qh (z0a o.out hb);clear hb
 go_wp2_with fail
 go_ret;exact⟨rfl,j.out⟩
theorem x7q (a b:ByteArray) (w:World) (B:a.size<=9223372036854775807) (hb:b.size<=9223372036854775807) (k:z0f 3 a=true) (p:z0f 3 b=true):Calls prog 98 #[.int .i64 3,.string a,.string b] w (IntEnd (z1a 3 a b) w):=by
 have c1:=fun d=>z0i 3 a d B;have c2:=fun d=>z0i 3 b d hb;rw[k] at c1;rw[p] at c2;obtain⟨v,D,rv,H,A,i⟩:=z1j k;obtain⟨u,s,L,J,C,z⟩:=z1j p;have F:=qh c1;clear c1;have G:=qh c2;clear c2;have E:z1a 3 a b=cmpV u v:=by unfold z1a;rw[D,s];rfl
 have c3:=fun d=>z7x u v d z i;rw[<- A,<- C,<- E] at c3;generalize z1a 3 a b=r at *;have I:=qh c3;clear c3 E D rv H A i s L J C z B hb k p
 go_enter func98,ntmps98
 go_wp2_with fail
 have g:=F.out w;refine g.mono ?_;clear g;rintro e N ⟨rfl,hb⟩;have l:=qh (hb);clear hb
 go_wp2_with fail
 have h:=G.out N;refine h.mono ?_;clear h;rintro e K ⟨rfl,hb⟩;have o:=qh (z0a l.out hb);clear hb
 go_wp2_with fail
 have c:=I.out K;refine c.mono ?_;clear c;rintro e O ⟨rfl,hb⟩;have j:=qh (z0a o.out hb);clear hb
 go_wp2_with fail
 go_ret;exact⟨rfl,j.out⟩
theorem x2h (k:Int) (a b:ByteArray) (w:World) (h:a.size<=9223372036854775807) (d:z0f k a=false):Calls prog 98 #[.int .i64 k,.string a,.string b] w (IntEnd (z1a k a b) w):=by
 have c1:=fun j=>z0i k a j h;rw[d] at c1;rw[x9i d];have i:=qh c1;clear c1 d h
 go_enter func98,ntmps98
 go_wp2_with fail
 have c:=i.out w;refine c.mono ?_;clear c;rintro e l ⟨rfl,hb⟩;have g:=qh (hb);clear hb
 go_wp2_with fail
 go_ret;exact⟨rfl,g.out⟩
theorem x3g (k:Int) (a b:ByteArray) (w:World) (l:a.size<=9223372036854775807) (hb:b.size<=9223372036854775807) (o:z0f k a=true) (i:z0f k b=false):Calls prog 98 #[.int .i64 k,.string a,.string b] w (IntEnd (z1a k a b) w):=by
 have c1:=fun h=>z0i k a h l;have c2:=fun h=>z0i k b h hb;rw[o] at c1;rw[i] at c2;rw[x7u i];have p:=qh c1;clear c1 o l;have r:=qh c2;clear c2 i hb
 go_enter func98,ntmps98
 go_wp2_with fail
 have c:=p.out w;refine c.mono ?_;clear c;rintro e s ⟨rfl,hb⟩;have j:=qh (hb);clear hb
 go_wp2_with fail
 have d:=r.out s;refine d.mono ?_;clear d;rintro e u ⟨rfl,hb⟩;have g:=qh (z0a j.out hb);clear hb
 go_wp2_with fail
 go_ret;exact⟨rfl,g.out⟩
theorem z8n (k:Int) (a b:ByteArray) (w:World) (d:a.size<=9223372036854775807) (hb:b.size<=9223372036854775807):Calls prog 98 #[.int .i64 k,.string a,.string b] w (IntEnd (z1a k a b) w):=by
 cases c:z0f k a with
 | false=>exact x2h k a b w d c
 | true =>
  cases g:z0f k b with
  | false=>exact x3g k a b w d hb c g
  | true =>
   rcases z1x k with rfl|rfl|rfl|h
   ·exact x8t a b w d hb c g
   ·exact x9e a b w d hb c g
   ·exact x7q a b w d hb c g
   rw[z6h h] at c;simp at c
theorem v6w (a b:ByteArray) (w:World) (C:a.size<=9223372036854775807) (hb:b.size<=9223372036854775807) (s:z0f 1 a=true) (A:z0f 1 b=true):Calls prog 106 #[.int .i64 1,.string a,.string b] w (PairEnd (z1r 1 a b) w):=by
 have c1:=fun l=>z0i 1 a l C;have c2:=fun l=>z0i 1 b l hb;rw[s] at c1;rw[A] at c2;obtain⟨v,D,rv,P,J,o⟩:=z1j s;obtain⟨u,r,R,Q,K,I⟩:=z1j A;have F:=qh c1;clear c1;have G:=qh c2;clear c2;have L:z1r 1 a b=(if z1a 1 b a<0 then b else a,0):=by
  have N:z1a 1 b a=z8e 1 u v:=by unfold z1a;rw[r,D]
  have e2:z1t 1 v u=if z8e 1 u v<0 then u else v:=by
   unfold z1t z8e;have:=z7k v u;simp only[show ((1:Int)=2)=False from by simp,if_true,if_false];by_cases h:0<cmpV v u
   ·rw[if_pos h,if_pos (by omega)]
   rw[if_neg h,if_neg (by omega)]
  unfold z1r;rw[D,r];simp only;rw[N,e2];by_cases h:z8e 1 u v<0
  ·rw[if_pos h,if_pos h,z8c I,<- K]
  rw[if_neg h,if_neg h,z8c o,<- J]
 rw[L];have c3:=fun l=>z8n 1 b a l hb C;have p:z1a 1 b a<0\/0<=z1a 1 b a:=by omega
 generalize z1a 1 b a=z at *;have H:=qh c3;clear c3 L D rv P J o r R Q K I C hb s A
 rcases p with p|p
 ·rw[if_pos p]
  go_enter func106,ntmps106
  go_wp2_with fail
  have d:=F.out w;refine d.mono ?_;clear d;rintro e E ⟨rfl,hb⟩;have j:=qh (hb);clear hb
  go_wp2_with fail
  have g:=G.out E;refine g.mono ?_;clear g;rintro e B ⟨rfl,hb⟩;have k:=qh (z0a j.out hb);clear hb
  go_wp2_with fail
  have c:=H.out B;refine c.mono ?_;clear c;rintro e O ⟨rfl,hb⟩;have i:=qh (z0a k.out hb);clear hb
  go_wp2_with fail
  go_ret2;exact⟨rfl,i.out⟩
 rw[if_neg (by omega)]
 go_enter func106,ntmps106
 go_wp2_with fail
 have d:=F.out w;refine d.mono ?_;clear d;rintro e E ⟨rfl,hb⟩;have j:=qh (hb);clear hb
 go_wp2_with fail
 have g:=G.out E;refine g.mono ?_;clear g;rintro e B ⟨rfl,hb⟩;have k:=qh (z0a j.out hb);clear hb
 go_wp2_with fail
 have c:=H.out B;refine c.mono ?_;clear c;rintro e O ⟨rfl,hb⟩;have i:=qh (z0a k.out hb);clear hb
 go_wp2_with fail
 go_ret2;exact⟨rfl,i.out⟩
theorem v5k (a b:ByteArray) (w:World) (z:a.size<=9223372036854775807) (hb:b.size<=9223372036854775807) (G:z0f 2 a=true) (H:z0f 2 b=true):Calls prog 106 #[.int .i64 2,.string a,.string b] w (PairEnd (z1r 2 a b) w):=by
 have c1:=fun o=>z0i 2 a o z;have c2:=fun o=>z0i 2 b o hb;rw[G] at c1;rw[H] at c2;obtain⟨v,N,rv,K,s,i⟩:=z1j G;obtain⟨u,J,P,L,A,p⟩:=z1j H;have D:=qh c1;clear c1;have E:=qh c2;clear c2;have j:z1r 2 a b=limV (addV v u):=by unfold z1r;rw[N,J,<- z7m]
 have l1:v≠.low:=z0t K (by decide);have l2:u≠.low:=z0t L (by decide);have C:=y0p i;have k:=y0p p;rw[<- s] at C;rw[<- A] at k;rw[j];clear j N rv K J P L G H;cases v with
 | low=>exact absurd rfl l1
 | inf =>
  have j:limV (addV .inf u)=(⟨#[105,110,102]⟩,0):=by cases u<;>rfl
  rw[j];simp only[decide_true] at C;clear j s i A p z hb l1 l2 k
  go_enter func106,ntmps106
  go_wp2_with fail
  have c:=D.out w;refine c.mono ?_;clear c;rintro e B ⟨rfl,hb⟩;have g:=qh (hb);clear hb
  go_wp2_with fail
  have d:=E.out B;refine d.mono ?_;clear d;rintro e I ⟨rfl,hb⟩;have h:=qh (z0a g.out hb);clear hb
  go_wp2_with fail
  go_ret2;exact⟨rfl,h.out⟩
 | fin x =>
  have C:(a.toList==[105,110,102])=false:=by rw[C];rfl
  cases u with
  | low=>exact absurd rfl l2
  | inf =>
   have j:limV (addV (.fin x) .inf)=(⟨#[105,110,102]⟩,0):=rfl;rw[j];simp only[decide_true] at k;clear j s i A p z hb l1 l2
   go_enter func106,ntmps106
   go_wp2_with fail
   have c:=D.out w;refine c.mono ?_;clear c;rintro e B ⟨rfl,hb⟩;have g:=qh (hb);clear hb
   go_wp2_with fail
   have d:=E.out B;refine d.mono ?_;clear d;rintro e I ⟨rfl,hb⟩;have h:=qh (z0a g.out hb);clear hb
   go_wp2_with fail
   go_ret2;exact⟨rfl,h.out⟩
  | fin y =>
   have k:(b.toList==[105,110,102])=false:=by rw[k];rfl
   have j:limV (addV (.fin x) (.fin y))=z2m a b:=by
    rw[s,A];show limR (x+y)=z2m (txt x) (txt y);unfold z2m;rw[z1e i,z1e p]
   rw[j];have c3:=fun o=>y8m a b o z hb;generalize z2m a b=r at *;obtain⟨R,S⟩:=r;have O:=qh c3;clear c3 j s i A p z hb l1 l2
   go_enter func106,ntmps106
   go_wp2_with fail
   have c:=D.out w;refine c.mono ?_;clear c;rintro e B ⟨rfl,hb⟩;have g:=qh (hb);clear hb
   go_wp2_with fail
   have d:=E.out B;refine d.mono ?_;clear d;rintro e I ⟨rfl,hb⟩;have h:=qh (z0a g.out hb);clear hb
   go_wp2_with fail
   have l:=O.out I;refine l.mono ?_;clear l;rintro e Q ⟨rfl,hb⟩;have F:=qh (z0a h.out hb);clear hb
   go_wp2_with fail
   go_ret2;exact⟨rfl,F.out⟩
theorem v6g (a b:ByteArray) (w:World) (C:a.size<=9223372036854775807) (hb:b.size<=9223372036854775807) (s:z0f 3 a=true) (A:z0f 3 b=true):Calls prog 106 #[.int .i64 3,.string a,.string b] w (PairEnd (z1r 3 a b) w):=by
 have c1:=fun l=>z0i 3 a l C;have c2:=fun l=>z0i 3 b l hb;rw[s] at c1;rw[A] at c2;obtain⟨v,D,rv,P,J,o⟩:=z1j s;obtain⟨u,r,R,Q,K,I⟩:=z1j A;have F:=qh c1;clear c1;have G:=qh c2;clear c2;have L:z1r 3 a b=(if z1a 3 b a<0 then b else a,0):=by
  have N:z1a 3 b a=z8e 3 u v:=by unfold z1a;rw[r,D]
  have e2:z1t 3 v u=if z8e 3 u v<0 then u else v:=by
   unfold z1t z8e;have:=z7k v u;simp only[show ((3:Int)=2)=False from by simp,show ((3:Int)=1)=False from by simp,if_false]
  unfold z1r;rw[D,r];simp only;rw[N,e2];by_cases h:z8e 3 u v<0
  ·rw[if_pos h,if_pos h,z8c I,<- K]
  rw[if_neg h,if_neg h,z8c o,<- J]
 rw[L];have c3:=fun l=>z8n 3 b a l hb C;have p:z1a 3 b a<0\/0<=z1a 3 b a:=by omega
 generalize z1a 3 b a=z at *;have H:=qh c3;clear c3 L D rv P J o r R Q K I C hb s A
 rcases p with p|p
 ·rw[if_pos p]
  go_enter func106,ntmps106
  go_wp2_with fail
  have d:=F.out w;refine d.mono ?_;clear d;rintro e E ⟨rfl,hb⟩;have j:=qh (hb);clear hb
  go_wp2_with fail
  have g:=G.out E;refine g.mono ?_;clear g;rintro e B ⟨rfl,hb⟩;have k:=qh (z0a j.out hb);clear hb
  go_wp2_with fail
  have c:=H.out B;refine c.mono ?_;clear c;rintro e O ⟨rfl,hb⟩;have i:=qh (z0a k.out hb);clear hb
  go_wp2_with fail
  go_ret2;exact⟨rfl,i.out⟩
 rw[if_neg (by omega)]
 go_enter func106,ntmps106
 go_wp2_with fail
 have d:=F.out w;refine d.mono ?_;clear d;rintro e E ⟨rfl,hb⟩;have j:=qh (hb);clear hb
 go_wp2_with fail
 have g:=G.out E;refine g.mono ?_;clear g;rintro e B ⟨rfl,hb⟩;have k:=qh (z0a j.out hb);clear hb
 go_wp2_with fail
 have c:=H.out B;refine c.mono ?_;clear c;rintro e O ⟨rfl,hb⟩;have i:=qh (z0a k.out hb);clear hb
 go_wp2_with fail
 go_ret2;exact⟨rfl,i.out⟩
theorem v1j (k:Int) (a b:ByteArray) (w:World) (h:a.size<=9223372036854775807) (d:z0f k a=false):Calls prog 106 #[.int .i64 k,.string a,.string b] w (PairEnd (z1r k a b) w):=by
 have c1:=fun j=>z0i k a j h;rw[d] at c1;rw[y2e d];have i:=qh c1;clear c1 d h
 go_enter func106,ntmps106
 go_wp2_with fail
 have c:=i.out w;refine c.mono ?_;clear c;rintro e l ⟨rfl,hb⟩;have g:=qh (hb);clear hb
 go_wp2_with fail
 go_ret2;exact⟨rfl,g.out⟩
theorem v1n (k:Int) (a b:ByteArray) (w:World) (l:a.size<=9223372036854775807) (hb:b.size<=9223372036854775807) (o:z0f k a=true) (i:z0f k b=false):Calls prog 106 #[.int .i64 k,.string a,.string b] w (PairEnd (z1r k a b) w):=by
 have c1:=fun h=>z0i k a h l;have c2:=fun h=>z0i k b h hb;rw[o] at c1;rw[i] at c2;rw[y4a i];have p:=qh c1;clear c1 o l;have r:=qh c2;clear c2 i hb
 go_enter func106,ntmps106
 go_wp2_with fail
 have c:=p.out w;refine c.mono ?_;clear c;rintro e s ⟨rfl,hb⟩;have j:=qh (hb);clear hb
 go_wp2_with fail
 have d:=r.out s;refine d.mono ?_;clear d;rintro e u ⟨rfl,hb⟩;have g:=qh (z0a j.out hb);clear hb
 go_wp2_with fail
 go_ret2;exact⟨rfl,g.out⟩
theorem y7k (k:Int) (a b:ByteArray) (w:World) (d:a.size<=9223372036854775807) (hb:b.size<=9223372036854775807):Calls prog 106 #[.int .i64 k,.string a,.string b] w (PairEnd (z1r k a b) w):=by
 cases c:z0f k a with
 | false=>exact v1j k a b w d c
 | true =>
  cases g:z0f k b with
  | false=>exact v1n k a b w d hb c g
  | true =>
   rcases z1x k with rfl|rfl|rfl|h
   ·exact v6w a b w d hb c g
   ·exact v5k a b w d hb c g
   ·exact v6g a b w d hb c g
   rw[z6h h] at c;simp at c
end
section
open Go.RowKit
theorem v2g (a b:ByteArray) (w:World) (F:a.size<=9223372036854775807) (hb:b.size<=9223372036854775807) (A:z0f 1 a=true) (D:z0f 1 b=true):Calls prog 146 #[.int .i64 1,.string a,.string b] w (PairEnd (z0y 1 a b) w):=by
 have c1:=fun C=>z0i 1 a C F;have c2:=fun C=>z0i 1 b C hb;rw[A] at c1;rw[D] at c2;obtain⟨v,L,rv,R,E,k⟩:=z1j A;obtain⟨u,H,X,W,G,p⟩:=z1j D;have N:=qh c1;clear c1;have P:=qh c2;clear c2;have ai:=y0p k;have S:=y2h k;have I:=z7h k;have Z:=y0p p;have J:=y2h p;have K:=z7h p;rw[<- E] at ai S I;rw[<- G] at Z J K;have l:z0y 1 a b=limV (z0d 1 v u):=by unfold z0y;rw[L,H]
 have c4:=fun C=>z5e 1 C;rw[x0b] at c4;have U:=qh c4;clear c4;by_cases v1:v=.inf
 ·subst v1;simp only[decide_true] at ai;clear S I Z J K;have o:z0d 1 .inf u=.inf:=by rw[times1]
  rw[o,z3v] at l;clear o;rw[l];clear l L rv R E k H X W G p F hb A D
  go_enter func146,ntmps146
  go_wp2_with fail
  have d:=N.out w;refine d.mono ?_;clear d;rintro e z ⟨rfl,hb⟩;have i:=qh (hb);clear hb
  go_wp2_with fail
  have g:=P.out z;refine g.mono ?_;clear g;rintro e s ⟨rfl,hb⟩;have j:=qh (z0a i.out hb);clear hb
  go_wp2_with fail
  have c:=U.out s;refine c.mono ?_;clear c;rintro e Q ⟨rfl,hb⟩;have h:=qh (z0a j.out hb);clear hb
  go_wp2_with fail
  go_ret2;exact⟨rfl,h.out⟩
 rw[decide_eq_false v1] at ai;by_cases B:u=.inf
 ·subst B;simp only[decide_true] at Z;clear S I J K;have o:z0d 1 v .inf=.inf:=by rw[times1];cases v<;>first|rfl|exact absurd rfl v1
  rw[o,z3v] at l;clear o v1;rw[l];clear l L rv R E k H X W G p F hb A D
  go_enter func146,ntmps146
  go_wp2_with fail
  have d:=N.out w;refine d.mono ?_;clear d;rintro e z ⟨rfl,hb⟩;have i:=qh (hb);clear hb
  go_wp2_with fail
  have g:=P.out z;refine g.mono ?_;clear g;rintro e s ⟨rfl,hb⟩;have j:=qh (z0a i.out hb);clear hb
  go_wp2_with fail
  have c:=U.out s;refine c.mono ?_;clear c;rintro e Q ⟨rfl,hb⟩;have h:=qh (z0a j.out hb);clear hb
  go_wp2_with fail
  go_ret2;exact⟨rfl,h.out⟩
 rw[decide_eq_false B] at Z;by_cases O:v=.low
 ·subst O;simp only[decide_true] at S;clear I J K;have o:z0d 1 .low u=.low:=by rw[times1];cases u<;>first|rfl|exact absurd rfl B
  rw[o,y4r] at l;clear o v1 B;rw[l];clear l L rv R E k H X W G p F hb A D
  go_enter func146,ntmps146
  go_wp2_with fail
  have d:=N.out w;refine d.mono ?_;clear d;rintro e z ⟨rfl,hb⟩;have i:=qh (hb);clear hb
  go_wp2_with fail
  have g:=P.out z;refine g.mono ?_;clear g;rintro e s ⟨rfl,hb⟩;have j:=qh (z0a i.out hb);clear hb
  go_wp2_with fail
  have c:=U.out s;refine c.mono ?_;clear c;rintro e Q ⟨rfl,hb⟩;have h:=qh (z0a j.out hb);clear hb
  go_wp2_with fail
  go_ret2;exact⟨rfl,h.out⟩
 rw[decide_eq_false O] at S;by_cases Y:u=.low
 ·subst Y;simp only[decide_true] at J;clear I K;have o:z0d 1 v .low=.low:=by rw[times1];cases v<;>first|rfl|exact absurd rfl v1
  rw[o,y4r] at l;clear o v1 B O;rw[l];clear l L rv R E k H X W G p F hb A D
  go_enter func146,ntmps146
  go_wp2_with fail
  have d:=N.out w;refine d.mono ?_;clear d;rintro e z ⟨rfl,hb⟩;have i:=qh (hb);clear hb
  go_wp2_with fail
  have g:=P.out z;refine g.mono ?_;clear g;rintro e s ⟨rfl,hb⟩;have j:=qh (z0a i.out hb);clear hb
  go_wp2_with fail
  have c:=U.out s;refine c.mono ?_;clear c;rintro e Q ⟨rfl,hb⟩;have h:=qh (z0a j.out hb);clear hb
  go_wp2_with fail
  go_ret2;exact⟨rfl,h.out⟩
 rw[decide_eq_false Y] at J;clear I K;cases v with
 | inf=>exact absurd rfl v1
 | low=>exact absurd rfl O
 | fin x =>
  cases u with
  | inf=>exact absurd rfl B
  | low=>exact absurd rfl Y
  | fin y =>
   have e3:limV (z0d 1 (.fin x) (.fin y))=z2m a b:=by
    rw[show z0d 1 (.fin x) (.fin y)=.fin (x+y) from by rw[times1],E,G];show limR (x+y)=z2m (txt x) (txt y);unfold z2m;rw[z1e k,z1e p]
   rw[l,e3];have c3:=fun C=>y8m a b C F hb;generalize z2m a b=r at *;obtain⟨rs,rn⟩:=r;have C3:=qh c3;clear c3 e3 l L rv R E k H X W G p F hb A D v1 B O Y
   go_enter func146,ntmps146
   go_wp2_with fail
   have d:=N.out w;refine d.mono ?_;clear d;rintro e z ⟨rfl,hb⟩;have i:=qh (hb);clear hb
   go_wp2_with fail
   have g:=P.out z;refine g.mono ?_;clear g;rintro e s ⟨rfl,hb⟩;have j:=qh (z0a i.out hb);clear hb
   go_wp2_with fail
   have c:=U.out s;refine c.mono ?_;clear c;rintro e Q ⟨rfl,hb⟩;have h:=qh (z0a j.out hb);clear hb
   go_wp2_with fail
   have T:=C3.out Q;refine T.mono ?_;clear T;rintro e w4 ⟨rfl,hb⟩;have a1:=qh (z0a h.out hb);clear hb
   go_wp2_with fail
   go_ret2;exact⟨rfl,a1.out⟩
theorem v0j (a b:ByteArray) (w:World) (F:a.size<=9223372036854775807) (hb:b.size<=9223372036854775807) (A:z0f 2 a=true) (D:z0f 2 b=true):Calls prog 146 #[.int .i64 2,.string a,.string b] w (PairEnd (z0y 2 a b) w):=by
 have c1:=fun C=>z0i 2 a C F;have c2:=fun C=>z0i 2 b C hb;rw[A] at c1;rw[D] at c2;obtain⟨v,O,rv,J,E,k⟩:=z1j A;obtain⟨u,H,X,N,G,p⟩:=z1j D;have P:=qh c1;clear c1;have R:=qh c2;clear c2;have W:=y0p k;have K:=y2h k;have az:=z7h k;have I:=y0p p;have L:=y2h p;have Z:=z7h p;rw[<- E] at W K az;rw[<- G] at I L Z;have l:z0y 2 a b=limV (z0d 2 v u):=by unfold z0y;rw[O,H]
 have c4:=fun C=>z5e 2 C;rw[y9r] at c4;have U:=qh c4;clear c4;have l1:v≠.low:=z0t J (by decide);have l2:u≠.low:=z0t N (by decide);rw[decide_eq_false l1] at K;rw[decide_eq_false l2] at L;by_cases v1:v=.fin 0
 ·subst v1;simp only[decide_true] at az;clear W K I L Z;have o:z0d 2 (.fin 0) u=.fin 0:=by rw[times23 (by decide) l1 l2,z2h]
  rw[o,z5p] at l;clear o l1 l2;rw[l];clear l O rv J E k H X N G p F hb A D
  go_enter func146,ntmps146
  go_wp2_with fail
  have d:=P.out w;refine d.mono ?_;clear d;rintro e z ⟨rfl,hb⟩;have i:=qh (hb);clear hb
  go_wp2_with fail
  have g:=R.out z;refine g.mono ?_;clear g;rintro e s ⟨rfl,hb⟩;have j:=qh (z0a i.out hb);clear hb
  go_wp2_with fail
  have c:=U.out s;refine c.mono ?_;clear c;rintro e S ⟨rfl,hb⟩;have h:=qh (z0a j.out hb);clear hb
  go_wp2_with fail
  go_ret2;exact⟨rfl,h.out⟩
 rw[decide_eq_false v1] at az;by_cases B:u=.fin 0
 ·subst B;simp only[decide_true] at Z;clear W K I L;have o:z0d 2 v (.fin 0)=.fin 0:=by rw[times23 (by decide) l1 l2,z2f]
  rw[o,z5p] at l;clear o l1 l2 v1;rw[l];clear l O rv J E k H X N G p F hb A D
  go_enter func146,ntmps146
  go_wp2_with fail
  have d:=P.out w;refine d.mono ?_;clear d;rintro e z ⟨rfl,hb⟩;have i:=qh (hb);clear hb
  go_wp2_with fail
  have g:=R.out z;refine g.mono ?_;clear g;rintro e s ⟨rfl,hb⟩;have j:=qh (z0a i.out hb);clear hb
  go_wp2_with fail
  have c:=U.out s;refine c.mono ?_;clear c;rintro e S ⟨rfl,hb⟩;have h:=qh (z0a j.out hb);clear hb
  go_wp2_with fail
  go_ret2;exact⟨rfl,h.out⟩
 rw[decide_eq_false B] at Z;by_cases Q:v=.inf
 ·subst Q;simp only[decide_true] at W;clear K I L;have o:z0d 2 .inf u=.inf:=by rw[times23 (by decide) l1 l2];unfold mulV;rw[if_neg (fun e=>e.elim v1 B)]
  rw[o,z3v] at l;clear o l1 l2 v1 B;rw[l];clear l O rv J E k H X N G p F hb A D
  go_enter func146,ntmps146
  go_wp2_with fail
  have d:=P.out w;refine d.mono ?_;clear d;rintro e z ⟨rfl,hb⟩;have i:=qh (hb);clear hb
  go_wp2_with fail
  have g:=R.out z;refine g.mono ?_;clear g;rintro e s ⟨rfl,hb⟩;have j:=qh (z0a i.out hb);clear hb
  go_wp2_with fail
  have c:=U.out s;refine c.mono ?_;clear c;rintro e S ⟨rfl,hb⟩;have h:=qh (z0a j.out hb);clear hb
  go_wp2_with fail
  go_ret2;exact⟨rfl,h.out⟩
 rw[decide_eq_false Q] at W;by_cases Y:u=.inf
 ·subst Y;simp only[decide_true] at I;clear K L;have o:z0d 2 v .inf=.inf:=by rw[times23 (by decide) l1 l2];unfold mulV;rw[if_neg (fun e=>e.elim v1 B)];cases v<;>rfl
  rw[o,z3v] at l;clear o l1 l2 v1 B Q;rw[l];clear l O rv J E k H X N G p F hb A D
  go_enter func146,ntmps146
  go_wp2_with fail
  have d:=P.out w;refine d.mono ?_;clear d;rintro e z ⟨rfl,hb⟩;have i:=qh (hb);clear hb
  go_wp2_with fail
  have g:=R.out z;refine g.mono ?_;clear g;rintro e s ⟨rfl,hb⟩;have j:=qh (z0a i.out hb);clear hb
  go_wp2_with fail
  have c:=U.out s;refine c.mono ?_;clear c;rintro e S ⟨rfl,hb⟩;have h:=qh (z0a j.out hb);clear hb
  go_wp2_with fail
  go_ret2;exact⟨rfl,h.out⟩
 rw[decide_eq_false Y] at I;cases v with
 | inf=>exact absurd rfl Q
 | low=>exact absurd rfl l1
 | fin x =>
  cases u with
  | inf=>exact absurd rfl Y
  | low=>exact absurd rfl l2
  | fin y =>
   have e3:limV (z0d 2 (.fin x) (.fin y))=z5x a b:=by
    rw[show z0d 2 (.fin x) (.fin y)=.fin (x*y) from by rw[times23 (by decide) l1 l2,z1z],E,G];show limR (x*y)=z5x (txt x) (txt y);unfold z5x;rw[z1e k,z1e p]
   rw[l,e3];have c3:=fun C=>x5a a b C F hb;generalize z5x a b=r at *;obtain⟨rs,rn⟩:=r;have C3:=qh c3;clear c3 e3 l O rv J E k H X N G p F hb A D v1 B Q Y l1 l2
   go_enter func146,ntmps146
   go_wp2_with fail
   have d:=P.out w;refine d.mono ?_;clear d;rintro e z ⟨rfl,hb⟩;have i:=qh (hb);clear hb
   go_wp2_with fail
   have g:=R.out z;refine g.mono ?_;clear g;rintro e s ⟨rfl,hb⟩;have j:=qh (z0a i.out hb);clear hb
   go_wp2_with fail
   have c:=U.out s;refine c.mono ?_;clear c;rintro e S ⟨rfl,hb⟩;have h:=qh (z0a j.out hb);clear hb
   go_wp2_with fail
   have T:=C3.out S;refine T.mono ?_;clear T;rintro e w4 ⟨rfl,hb⟩;have a1:=qh (z0a h.out hb);clear hb
   go_wp2_with fail
   go_ret2;exact⟨rfl,a1.out⟩
theorem v2n (a b:ByteArray) (w:World) (F:a.size<=9223372036854775807) (hb:b.size<=9223372036854775807) (A:z0f 3 a=true) (D:z0f 3 b=true):Calls prog 146 #[.int .i64 3,.string a,.string b] w (PairEnd (z0y 3 a b) w):=by
 have c1:=fun C=>z0i 3 a C F;have c2:=fun C=>z0i 3 b C hb;rw[A] at c1;rw[D] at c2;obtain⟨v,O,rv,J,E,k⟩:=z1j A;obtain⟨u,H,X,N,G,p⟩:=z1j D;have P:=qh c1;clear c1;have R:=qh c2;clear c2;have W:=y0p k;have K:=y2h k;have az:=z7h k;have I:=y0p p;have L:=y2h p;have Z:=z7h p;rw[<- E] at W K az;rw[<- G] at I L Z;have l:z0y 3 a b=limV (z0d 3 v u):=by unfold z0y;rw[O,H]
 have c4:=fun C=>z5e 3 C;rw[y9f] at c4;have U:=qh c4;clear c4;have l1:v≠.low:=z0t J (by decide);have l2:u≠.low:=z0t N (by decide);rw[decide_eq_false l1] at K;rw[decide_eq_false l2] at L;by_cases v1:v=.fin 0
 ·subst v1;simp only[decide_true] at az;clear W K I L Z;have o:z0d 3 (.fin 0) u=.fin 0:=by rw[times23 (by decide) l1 l2,z2h]
  rw[o,z5p] at l;clear o l1 l2;rw[l];clear l O rv J E k H X N G p F hb A D
  go_enter func146,ntmps146
  go_wp2_with fail
  have d:=P.out w;refine d.mono ?_;clear d;rintro e z ⟨rfl,hb⟩;have i:=qh (hb);clear hb
  go_wp2_with fail
  have g:=R.out z;refine g.mono ?_;clear g;rintro e s ⟨rfl,hb⟩;have j:=qh (z0a i.out hb);clear hb
  go_wp2_with fail
  have c:=U.out s;refine c.mono ?_;clear c;rintro e S ⟨rfl,hb⟩;have h:=qh (z0a j.out hb);clear hb
  go_wp2_with fail
  go_ret2;exact⟨rfl,h.out⟩
 rw[decide_eq_false v1] at az;by_cases B:u=.fin 0
 ·subst B;simp only[decide_true] at Z;clear W K I L;have o:z0d 3 v (.fin 0)=.fin 0:=by rw[times23 (by decide) l1 l2,z2f]
  rw[o,z5p] at l;clear o l1 l2 v1;rw[l];clear l O rv J E k H X N G p F hb A D
  go_enter func146,ntmps146
  go_wp2_with fail
  have d:=P.out w;refine d.mono ?_;clear d;rintro e z ⟨rfl,hb⟩;have i:=qh (hb);clear hb
  go_wp2_with fail
  have g:=R.out z;refine g.mono ?_;clear g;rintro e s ⟨rfl,hb⟩;have j:=qh (z0a i.out hb);clear hb
  go_wp2_with fail
  have c:=U.out s;refine c.mono ?_;clear c;rintro e S ⟨rfl,hb⟩;have h:=qh (z0a j.out hb);clear hb
  go_wp2_with fail
  go_ret2;exact⟨rfl,h.out⟩
 rw[decide_eq_false B] at Z;by_cases Q:v=.inf
 ·subst Q;simp only[decide_true] at W;clear K I L;have o:z0d 3 .inf u=.inf:=by rw[times23 (by decide) l1 l2];unfold mulV;rw[if_neg (fun e=>e.elim v1 B)]
  rw[o,z3v] at l;clear o l1 l2 v1 B;rw[l];clear l O rv J E k H X N G p F hb A D
  go_enter func146,ntmps146
  go_wp2_with fail
  have d:=P.out w;refine d.mono ?_;clear d;rintro e z ⟨rfl,hb⟩;have i:=qh (hb);clear hb
  go_wp2_with fail
  have g:=R.out z;refine g.mono ?_;clear g;rintro e s ⟨rfl,hb⟩;have j:=qh (z0a i.out hb);clear hb
  go_wp2_with fail
  have c:=U.out s;refine c.mono ?_;clear c;rintro e S ⟨rfl,hb⟩;have h:=qh (z0a j.out hb);clear hb
  go_wp2_with fail
  go_ret2;exact⟨rfl,h.out⟩
 rw[decide_eq_false Q] at W;by_cases Y:u=.inf
 ·subst Y;simp only[decide_true] at I;clear K L;have o:z0d 3 v .inf=.inf:=by rw[times23 (by decide) l1 l2];unfold mulV;rw[if_neg (fun e=>e.elim v1 B)];cases v<;>rfl
  rw[o,z3v] at l;clear o l1 l2 v1 B Q;rw[l];clear l O rv J E k H X N G p F hb A D
  go_enter func146,ntmps146
  go_wp2_with fail
  have d:=P.out w;refine d.mono ?_;clear d;rintro e z ⟨rfl,hb⟩;have i:=qh (hb);clear hb
  go_wp2_with fail
  have g:=R.out z;refine g.mono ?_;clear g;rintro e s ⟨rfl,hb⟩;have j:=qh (z0a i.out hb);clear hb
  go_wp2_with fail
  have c:=U.out s;refine c.mono ?_;clear c;rintro e S ⟨rfl,hb⟩;have h:=qh (z0a j.out hb);clear hb
  go_wp2_with fail
  go_ret2;exact⟨rfl,h.out⟩
 rw[decide_eq_false Y] at I;cases v with
 | inf=>exact absurd rfl Q
 | low=>exact absurd rfl l1
 | fin x =>
  cases u with
  | inf=>exact absurd rfl Y
  | low=>exact absurd rfl l2
  | fin y =>
   have e3:limV (z0d 3 (.fin x) (.fin y))=z5x a b:=by
    rw[show z0d 3 (.fin x) (.fin y)=.fin (x*y) from by rw[times23 (by decide) l1 l2,z1z],E,G];show limR (x*y)=z5x (txt x) (txt y);unfold z5x;rw[z1e k,z1e p]
   rw[l,e3];have c3:=fun C=>x5a a b C F hb;generalize z5x a b=r at *;obtain⟨rs,rn⟩:=r;have C3:=qh c3;clear c3 e3 l O rv J E k H X N G p F hb A D v1 B Q Y l1 l2
   go_enter func146,ntmps146
   go_wp2_with fail
   have d:=P.out w;refine d.mono ?_;clear d;rintro e z ⟨rfl,hb⟩;have i:=qh (hb);clear hb
   go_wp2_with fail
   have g:=R.out z;refine g.mono ?_;clear g;rintro e s ⟨rfl,hb⟩;have j:=qh (z0a i.out hb);clear hb
   go_wp2_with fail
   have c:=U.out s;refine c.mono ?_;clear c;rintro e S ⟨rfl,hb⟩;have h:=qh (z0a j.out hb);clear hb
   go_wp2_with fail
   have T:=C3.out S;refine T.mono ?_;clear T;rintro e w4 ⟨rfl,hb⟩;have a1:=qh (z0a h.out hb);clear hb
   go_wp2_with fail
   go_ret2;exact⟨rfl,a1.out⟩
theorem x8p (k:Int) (a b:ByteArray) (w:World) (h:a.size<=9223372036854775807) (d:z0f k a=false):Calls prog 146 #[.int .i64 k,.string a,.string b] w (PairEnd (z0y k a b) w):=by
 have c1:=fun j=>z0i k a j h;rw[d] at c1;rw[z8v d];have i:=qh c1;clear c1 d h
 go_enter func146,ntmps146
 go_wp2_with fail
 have c:=i.out w;refine c.mono ?_;clear c;rintro e l ⟨rfl,hb⟩;have g:=qh (hb);clear hb
 go_wp2_with fail
 go_ret2;exact⟨rfl,g.out⟩
theorem x8i (k:Int) (a b:ByteArray) (w:World) (l:a.size<=9223372036854775807) (hb:b.size<=9223372036854775807) (o:z0f k a=true) (i:z0f k b=false):Calls prog 146 #[.int .i64 k,.string a,.string b] w (PairEnd (z0y k a b) w):=by
 have c1:=fun h=>z0i k a h l;have c2:=fun h=>z0i k b h hb;rw[o] at c1;rw[i] at c2;rw[y1m i];have p:=qh c1;clear c1 o l;have r:=qh c2;clear c2 i hb
 go_enter func146,ntmps146
 go_wp2_with fail
 have c:=p.out w;refine c.mono ?_;clear c;rintro e s ⟨rfl,hb⟩;have j:=qh (hb);clear hb
 go_wp2_with fail
 have d:=r.out s;refine d.mono ?_;clear d;rintro e u ⟨rfl,hb⟩;have g:=qh (z0a j.out hb);clear hb
 go_wp2_with fail
 go_ret2;exact⟨rfl,g.out⟩
theorem x2t (k:Int) (a b:ByteArray) (w:World) (d:a.size<=9223372036854775807) (hb:b.size<=9223372036854775807):Calls prog 146 #[.int .i64 k,.string a,.string b] w (PairEnd (z0y k a b) w):=by
 cases c:z0f k a with
 | false=>exact x8p k a b w d c
 | true =>
  cases g:z0f k b with
  | false=>exact x8i k a b w d hb c g
  | true =>
   rcases z1x k with rfl|rfl|rfl|h
   ·exact v2g a b w d hb c g
   ·exact v0j a b w d hb c g
   ·exact v2n a b w d hb c g
   rw[z6h h] at c;simp at c
end
end Go.Proofs.YtjekapjbigfkbaaGreatDoor
