/- Parts of a proof: Str Com RatL ML C1. -/
import Derived.Lib.Hide
import Derived.Lib.ItoaNum
import Derived.Lib.ItoaLen
import Derived.Test.YtjekapjbigfkbaaGreatDoorProg
import Derived.WalkKit
import Derived.WalkSpells
import Derived.WalkLawsBesides
import Derived.Lib.Strings
namespace Go.Proofs.YtjekapjbigfkbaaGreatDoor
set_option maxRecDepth 100000
set_option linter.unusedSimpArgs false
set_option linter.unusedVariables false
set_option linter.unusedSectionVars false
set_option maxHeartbeats 16000000
open Go Tryz
theorem qh {p : Prop} (h : p) : RowKit.Hid p := h
theorem exq {α : Sort _} (e : α) : ∃ x, x = e := ⟨e, rfl⟩
section
def dgt (c:UInt8):Bool:=decide (48<=c.toNat)&&decide (c.toNat<=57)
def dgts (l:List UInt8):Bool:=l.all dgt
def z0w (l:List UInt8):Bool :=
 decide (1<=l.length)&&decide (l.length<=1000)&&(decide (l.length=1)||decide (l.headD 0≠48))&&dgts l
def bts (s:ByteArray):List UInt8:=s.data.toList
def str (l:List UInt8):ByteArray:=⟨l.toArray⟩
theorem z1f (l:List UInt8):bts (str l)=l:=by simp[bts,str]
theorem z8p (s:ByteArray):str (bts s)=s:=by simp[bts,str]
theorem z0s (l:List UInt8):(str l).size=l.length:=by simp[str,ByteArray.size]
theorem z0j (s:ByteArray):(bts s).length=s.size:=by simp[bts]
theorem z6y {s t:ByteArray} (h:bts s=bts t):s=t:=by rw[<- z8p s,h,z8p]
theorem x3x (s:ByteArray) (k:Nat) (h:k<s.size):(bts s)[k]'(by rw[z0j];exact h)=s[k]:=rfl
theorem z7r (s:ByteArray) (k:Nat) (h:k<s.size):(bts s).take (k+1)=(bts s).take k++[s[k]]:=by
 rw[List.take_succ_eq_append_getElem (by rw[z0j];exact h)];rfl
theorem z8a (s:ByteArray) (k:Nat) (h:k<s.size):(bts s).getD k 0=s[k]:=by
 rw[List.getD_eq_getElem?_getD,List.getElem?_eq_getElem (by rw[z0j];exact h)];rfl
theorem z9c (s:ByteArray) (h:0<s.size):(bts s).headD 0=s[0]:=by
 rw[<- z8a s 0 h];cases bts s<;>rfl
theorem z5j (l:List UInt8) (c:UInt8):dgts (l++[c])=(dgts l&&dgt c):=by simp[dgts,List.all_append]
theorem z9w (s:ByteArray) (k:Nat) (h:k<s.size) (c:dgt s[k]=false):dgts (bts s)=false:=by
 unfold dgts;rw[List.all_eq_false];refine⟨s[k],?_,by simp[c]⟩;have:=List.getElem_mem (l:=bts s) (n:=k) (by rw[z0j];exact h);exact this
theorem z0m {l:List UInt8} (h:z0w l=true):1<=l.length/\l.length<=1000/\(l.length=1\/l.headD 0≠48)/\dgts l=true:=by
 simp only[z0w,Bool.and_eq_true,Bool.or_eq_true,decide_eq_true_eq] at h;exact⟨h.1.1.1,h.1.1.2,h.1.2,h.2⟩
theorem y4u {l:List UInt8} (h:1<=l.length) (d:l.length<=1000) (g:l.length=1\/l.headD 0≠48) (c:dgts l=true):z0w l=true:=by
 simp only[z0w,Bool.and_eq_true,Bool.or_eq_true,decide_eq_true_eq];exact⟨⟨⟨h,d⟩,g⟩,c⟩
theorem y9g {l:List UInt8} (h:dgts l=true) (k:Nat) (c:k<l.length):48<=l[k].toNat/\l[k].toNat<=57:=by
 have:=List.all_eq_true.1 h l[k] (List.getElem_mem _)
 simpa [dgt] using this
def num (l:List UInt8):Nat:=l.foldl (fun n c=>10*n+(c.toNat-48)) 0
abbrev dec (n:Nat):List UInt8:=Lib.decDigits n
theorem z5g (l:List UInt8) (c:UInt8):num (l++[c])=10*num l+(c.toNat-48):=by simp[num,List.foldl_append]
theorem z1m {n:Nat} (h:n<10):dec n=[UInt8.ofNat (48+n)]:=Lib.decDigits_one h
theorem y0k {n:Nat} (h:¬ n<10):dec n=dec (n / 10)++[UInt8.ofNat (48+n % 10)]:=by
 unfold dec;rw[Lib.decDigits,dif_neg h]
theorem u8n {n:Nat} (h:n<256):(UInt8.ofNat n).toNat=n:=by simp[UInt8.toNat_ofNat'];omega
theorem u8d {n:Nat} (h:n<10):(UInt8.ofNat (48+n)).toNat-48=n:=by rw[u8n (by omega)];omega
theorem z4r (n:Nat):num (dec n)=n:=by
 induction n using Nat.strongRecOn with
 | ind n ih =>
  by_cases h:n<10
  ·rw[z1m h];simp only[num,List.foldl];rw[u8d h];omega
  rw[y0k h,z5g,ih (n / 10) (by omega),u8d (by omega)];omega
theorem z5v {m n:Nat} (h:dec m=dec n):m=n:=by rw[<- z4r m,h,z4r]
theorem y8t (n:Nat):1<=(dec n).length:=by unfold dec;rw[Lib.decDigits_length];exact Lib.nDigits_pos n
theorem z3b (n:Nat):dgts (dec n)=true:=by
 induction n using Nat.strongRecOn with
 | ind n ih =>
  by_cases h:n<10
  ·rw[z1m h];simp only[dgts,List.all_cons,List.all_nil,dgt];rw[u8n (by omega)];simp;omega
  rw[y0k h,z5j,ih (n / 10) (by omega)];simp only[dgt];rw[u8n (by omega)];simp;omega
theorem y3k {l r:List UInt8} (h:1<=l.length):(l++r).headD 0=l.headD 0:=by cases l with
 | nil=>simp at h
 | cons a l=>rfl
theorem v8b (n:Nat) (h:1<=n):(dec n).headD 0≠48:=by
 induction n using Nat.strongRecOn with
 | ind n ih =>
  by_cases c:n<10
  ·rw[z1m c];simp only[List.headD_cons];intro e;have:=congrArg UInt8.toNat e;rw[u8n (by omega)] at this;simp at this;omega
  rw[y0k c,y3k (y8t _)];exact ih (n / 10) (by omega) (by omega)
theorem y5s {n:Nat} (h:(dec n).length<=1000):z0w (dec n)=true:=by
 refine y4u (y8t n) h ?_ (z3b n);by_cases c:n=0
 ·left;subst c;rw[z1m (by omega)];rfl
 right;exact v8b n (by omega)
theorem y1e {α:Type} (l:List α) (h:l≠[]):∃ m c,l=m++[c]:=⟨l.dropLast,l.getLast h,(List.dropLast_concat_getLast h).symm⟩
theorem v8c {c:UInt8} {n:Nat} (h:c.toNat=n):UInt8.ofNat n=c:=by rw[<- h];exact UInt8.ofNat_toNat
theorem y6s:∀ (k:Nat) (l:List UInt8),l.length=k->1<=l.length->l.headD 0≠48->dgts l=true->1<=num l/\dec (num l)=l:=by
 intro k
 induction k with
 | zero=>intro l A z;omega
 | succ k ih =>
  intro l g _ h d;obtain⟨m,c,rfl⟩:=y1e l (by intro e;subst e;simp at g);rw[z5j] at d;simp only[Bool.and_eq_true,dgt,decide_eq_true_eq] at d;obtain⟨r,u,s⟩:=d;simp at g;by_cases j:m=[]
  ·subst j;have p:num ([]++[c])=c.toNat-48:=by simp[num]
   have v:c.toNat≠48:=by
    intro e;apply h;have:=UInt8.toNat_inj.1 (show c.toNat=(48:UInt8).toNat from e);simpa using this
   rw[p];refine⟨by omega,?_⟩;rw[z1m (by omega),v8c (c:=c) (by omega)];rfl
  have i:1<=m.length:=by cases m with
   | nil=>exact absurd rfl j
   | cons a l=>simp
  rw[y3k i] at h;obtain⟨i1,o⟩:=ih m g i h r;rw[z5g];refine⟨by omega,?_⟩;rw[y0k (by omega),show (10*num m+(c.toNat-48)) / 10=num m by omega,o,v8c (c:=c) (by omega)]
theorem z3x {l:List UInt8} (h:z0w l=true):dec (num l)=l:=by
 obtain⟨o,p,k,g⟩:=z0m h;by_cases d:l.headD 0≠48
 ·exact(y6s _ l rfl o d g).2
 have j:l.length=1:=by rcases k with h|h;exact h;exact absurd h d
 match l,j with
 | [c],_ =>
  have i:c=48:=by simpa using d
  subst i;have:num [48]=0:=rfl;rw[this,z1m (by omega)];rfl
theorem z1p {n k:Nat}:(dec n).length<=k↔(n<10 ^ k/\1<=k):=by
 unfold dec;rw[Lib.decDigits_length]
 constructor
 ·intro h;exact⟨Nat.lt_of_lt_of_le (Lib.lt_pow_nDigits n) (Nat.pow_le_pow_right (by omega) h),Nat.le_trans (Lib.nDigits_pos n) h⟩
 intro ⟨h,g⟩
 induction k generalizing n with
 | zero=>omega
 | succ k ih =>
  by_cases d:n<10
  ·rw[Lib.nDigits_small d];omega
  rw[Lib.nDigits_big d];by_cases c:k=0
  ·subst c;simp at h;omega
  have:=ih (n:=n / 10) (by rw[Nat.pow_succ] at h;omega) (by omega);omega
theorem v4t (l:List UInt8) (d:dgts l=true):num l<10 ^ l.length:=by
 suffices h:∀ (k:Nat) (l:List UInt8),l.length=k->dgts l=true->num l<10 ^ l.length from h _ l rfl d
 intro k
 induction k with
 | zero=>intro l h _;have:l=[]:=List.length_eq_zero_iff.1 h;subst this;simp[num]
 | succ k ih =>
  intro l g d;obtain⟨m,c,rfl⟩:=y1e l (by intro e;subst e;simp at g);rw[z5j] at d;simp only[Bool.and_eq_true,dgt,decide_eq_true_eq] at d;simp at g;have:=ih m g d.1;rw[z5g,List.length_append,List.length_singleton,Nat.pow_succ];omega
theorem u0q {l m:List UInt8} (c:z0w l=true) (d:z0w m=true) (h:num l=num m):l=m:=by
 rw[<- z3x c,h,z3x d]
end
section
open Go.RowKit
theorem z0k {a b:Bool} (h:a=b):Ending.returned (.bool a)=.returned (.bool b):=by rw[h]
theorem z4x {k:IntKind} {a b:Int} (h:a=b):Ending.returned (.int k a)=.returned (.int k b):=by rw[h]
theorem y2k {a b:ByteArray} (h:a=b):Ending.returned (.string a)=.returned (.string b):=by rw[h]
theorem v7c {k c:IntKind} {a b a' b':Int} (h:a=a') (d:b=b'):Ending.returned (.tuple #[.int k a,.int c b])=.returned (.tuple #[.int k a',.int c b']):=by rw[h,d]
theorem below_drewN {B:Nat} {a w:World} (h:Below B a w) (n:Nat):Below B a (w.drewN n):=h.trans ⟨rfl,rfl,rfl,Nat.le_refl _,fun _ _=>rfl⟩
def lenV (v:Value):Nat:=match v with | .slice _ n _=>n|_=>0
theorem y7e (a:Option Addr) (n c:Nat):lenV (.slice a n c)=n:=rfl
def strV (v:Value):Nat:=match v with | .string s=>s.size|_=>0
theorem x3w (s:ByteArray):strV (.string s)=s.size:=rfl
def nth (xs:List Nat) (i:Nat):Nat:=xs.getD i 0
theorem z5u (xs:List Nat) (i:Nat) (h:i<xs.length):nth xs i=xs[i]:=by simp[nth,List.getD_eq_getElem?_getD,h]
theorem z1n (xs:List Nat) (i:Nat) (h:xs.length<=i):nth xs i=0:=by simp[nth,List.getD_eq_getElem?_getD,h]
theorem z9i (xs:List Nat) (k i:Nat) (h:i<k):nth (xs.take k) i=nth xs i:=by simp[nth,List.getD_eq_getElem?_getD,h]
theorem z9r (xs:List Nat) (k:Nat) (h:k<xs.length):xs.take (k+1)=xs.take k++[nth xs k]:=by
 rw[List.take_succ_eq_append_getElem h,z5u xs k h]
def vals (k:IntKind) (xs:List Nat):List Value:=xs.map fun n:Nat=>Value.int k (n:Int)
theorem x5w (k:IntKind) (xs:List Nat):(vals k xs).length=xs.length:=by simp[vals]
theorem y5b (k:IntKind) (xs:List Nat) (n:Nat):vals k xs++[.int k (n:Int)]=vals k (xs++[n]):=by simp[vals]
theorem v3m (k:IntKind) (xs:List Nat) (n:Nat):(vals k xs).take n=vals k (xs.take n):=by simp[vals,List.map_take]
theorem x6u (k:IntKind) (xs:List Nat) (i:Nat) (h:i<xs.length):(vals k xs)[i]?=some (.int k ((nth xs i:Nat):Int)):=by
 rw[z5u xs i h];simp[vals,h]
def Sl (w:World) (k:IntKind) (v:Value) (xs:List Nat):Prop :=
 (v=.slice none 0 0/\xs=[])\/∃ b off cap,v=.slice (some ⟨b,off,none⟩) xs.length cap/\b<w.heap.size/\xs.length<=cap/\cap<=maxLen /\
  ∀ i,i<xs.length->w.cell? ⟨b,off+i,none⟩=some (.int k ((nth xs i:Nat):Int))
theorem Sl.open {w:World} {k:IntKind} {v:Value} {xs:List Nat} (h:Sl w k v xs):∃ a cap b off,v=.slice a xs.length cap/\(0<xs.length->a=some ⟨b,off,none⟩)/\xs.length<=cap/\cap<=maxLen /\
  (0<xs.length->b<w.heap.size)/\∀ i,i<xs.length->w.cell? ⟨b,off+i,none⟩=some (.int k ((nth xs i:Nat):Int)):=by
 rcases h with ⟨c,rfl⟩|⟨b,off,cap,c,j,l,g,d⟩
 ·exact⟨none,0,0,0,c,by simp,by simp,by simp,by simp,by simp⟩
 exact⟨_,cap,b,off,c,fun _=>rfl,l,g,fun _=>j,d⟩
theorem Sl.nil (w:World) (k:IntKind):Sl w k (.slice none 0 0) []:=.inl ⟨rfl,rfl⟩
theorem Sl.below {B:Nat} {w g:World} {k:IntKind} {v:Value} {xs:List Nat} (h:Sl w k v xs) (hb:Below B w g) (u:w.heap.size<=B):Sl g k v xs:=by
 rcases h with h|⟨b,c,d,l,r,s,o,j⟩
 ·exact .inl h
 exact .inr ⟨b,c,d,l,Nat.lt_of_lt_of_le r hb.size,s,o,fun i hi=>(hb.cell (p:=⟨b,c+i,none⟩) (by show b<B;omega)).trans (j i hi)⟩
theorem Sl.take {w:World} {k:IntKind} {a:Option Addr} {n cap m:Nat} {xs:List Nat} (h:Sl w k (.slice a n cap) xs) (g:m<=xs.length):Sl w k (.slice a m cap) (xs.take m):=by
 rcases h with ⟨d,rfl⟩|⟨b,j,c,d,p,r,o,l⟩
 ·simp at d g;subst g;obtain⟨rfl,rfl,rfl⟩:=d;exact .inl ⟨rfl,rfl⟩
 simp at d;obtain⟨rfl,rfl,rfl⟩:=d;refine .inr ⟨b,j,cap,by rw[List.length_take,Nat.min_eq_left g],p,by rw[List.length_take];omega,o,fun i hi=>?_⟩;rw[List.length_take] at hi;rw[z9i _ _ _ (by omega)];exact l i (by omega)
def Own (w:World) (B:Nat) (e:TypeId) (k:IntKind) (v:Value) (xs:List Nat):Prop:=w.ownsRow B e 1 v xs.length (vals k xs)
theorem Own.nil (w:World) (B:Nat) (e:TypeId) (k:IntKind):Own w B e k (.slice none 0 0) []:=World.ownsRow_nil w B e 1
theorem Own.sl {w:World} {B:Nat} {e:TypeId} {k:IntKind} {v:Value} {xs:List Nat} (h:Own w B e k v xs):Sl w k v xs:=by
 rcases h.2 with ⟨c,r⟩|⟨g,d,l,c,_,j,o,p,u,s⟩
 ·exact .inl ⟨c,List.length_eq_zero_iff.1 r⟩
 refine .inr ⟨g,0,d,c,(Array.getElem?_eq_some_iff.1 j).1,o,p,fun i hi=>?_⟩;subst c;rw[Nat.zero_add,World.ownsRow.cellAt h i (by omega),x6u k xs i hi]
theorem Own.kept {w o:World} {B:Nat} {e:TypeId} {k:IntKind} {v:Value} {xs:List Nat} {l:Nat} (h:Own w B e k v xs) (hb:Below l w o) (s:w.heap.size<=l):Own o B e k v xs:=by
 refine⟨h.1,?_⟩
 rcases h.2 with p|⟨g,i,j,rfl,r,d,c⟩
 ·exact .inl p
 have:=(Array.getElem?_eq_some_iff.1 d).1;exact .inr ⟨g,i,j,rfl,r,by rw[hb.block g (by omega)];exact d,c⟩
theorem Own.mono {w:World} {B j:Nat} {e:TypeId} {k:IntKind} {v:Value} {xs:List Nat} (h:Own w B e k v xs) (o:j<=B):Own w j e k v xs:=by
 refine⟨h.1,?_⟩
 rcases h.2 with l|⟨g,d,i,rfl,p,c⟩
 ·exact .inl l
 exact .inr ⟨g,d,i,rfl,by omega,c⟩
theorem Own.take {w:World} {B:Nat} {e:TypeId} {k:IntKind} {a:Option Addr} {n cap m:Nat} {xs:List Nat} (h:Own w B e k (.slice a n cap) xs) (u:m<=xs.length):Own w B e k (.slice a m cap) (xs.take m):=by
 have p:(xs.take m).length=m:=by rw[List.length_take];omega
 refine⟨by rw[x5w];omega,?_⟩;rw[p]
 rcases h.2 with ⟨d,l⟩|⟨g,c,i,d,l,j,v,s,r,o⟩
 ·simp at d;obtain⟨rfl,rfl,rfl⟩:=d;have:m=0:=by omega
  subst this;exact .inl ⟨rfl,rfl⟩
 simp only[Value.slice.injEq] at d;obtain⟨rfl,rfl,rfl⟩:=d;refine .inr ⟨g,cap,i,rfl,l,j,by omega,s,r,?_⟩;rw[<- v3m,<- o,List.take_take];congr 1;omega
theorem Own.appended {w wr c:World} {B:Nat} {e:TypeId} {k:IntKind} {v v':Value} {l:List Nat} {x:Nat} {o:Obj} (h:Own wr B e k v l) (hb:Below B w wr) (i:B<=wr.heap.size)
  (d:c.ownsRow B e 1 v' (l.length+1) (vals k l++[.int k (x:Int)])) (g:(wr.alloc o).grownBy c v.ownBlock):Own c B e k v' (l++[x])/\Below B w c:=by
 constructor
 ·unfold Own;rw[y5b] at d;rw[List.length_append];exact d
 exact(hb.alloc i o).grown g (by simp;omega) (fun q j=>(World.ownsRow.lt h q j).1)
theorem Own.raw {w:World} {B:Nat} {e:TypeId} {k:IntKind} {v:Value} {l:List Nat} (h:Own w B e k v l):w.ownsRow B e 1 v l.length (vals k l):=h
theorem one_cell (k:IntKind) (x:Int):∀ u ∈ [Value.int k x],u.oneCell'=true:=by intro u c;simp at c;subst c;rfl
theorem Own.shape {w:World} {B:Nat} {e:TypeId} {k:IntKind} {v:Value} {xs:List Nat} (h:Own w B e k v xs):∃ a cap,v=.slice a xs.length cap:=by
 rcases h.2 with ⟨c,i⟩|⟨g,cap,d,c,_⟩
 ·exact⟨none,0,by rw[c,i]⟩
 exact⟨_,cap,c⟩
theorem Sl.shape {w:World} {k:IntKind} {v:Value} {xs:List Nat} (h:Sl w k v xs):∃ a cap,v=.slice a xs.length cap:=by
 rcases h with ⟨c,g⟩|⟨b,d,cap,c,_⟩
 ·exact⟨none,0,by rw[c,g];rfl⟩
 exact⟨_,cap,c⟩
end
section
def z4f (l:List UInt8):Bool:=l.headD 0==45
def z1d (l:List UInt8):List UInt8:=if z4f l then l.tail else l
def hasS (l:List UInt8):Bool:=l.any (·==47)
def upTo (l:List UInt8):List UInt8:=l.takeWhile (· != 47)
def z6p (l:List UInt8):List UInt8:=(l.dropWhile (· != 47)).tail
def denL (l:List UInt8):List UInt8:=if hasS l then z6p l else [49]
def okP (neg:Bool) (n d:List UInt8) (frac:Bool):Bool :=
 z0w n&&z0w d&&decide (n.length<=400)&&decide (d.length<=400)&&!(neg&&(n==[48]))&&!(frac&&(d==[48]||d==[49]))&&decide (Nat.gcd (num n) (num d)=1)
def sg (neg:Bool) (m:Nat):Int:=if neg then -(m:Int) else (m:Int)
def prsL (l:List UInt8):Option Rat :=
 if okP (z4f l) (upTo (z1d l)) (denL (z1d l)) (hasS (z1d l)) then some (mkRat (sg (z4f l) (num (upTo (z1d l)))) (num (denL (z1d l)))) else none
def prs (s:ByteArray):Option Rat:=prsL (bts s)
def fitQ (q:Rat):Prop:=(dec q.num.natAbs).length<=400/\(dec q.den).length<=400
instance (q:Rat):Decidable (fitQ q):=inferInstanceAs (Decidable (_/\_))
def negQ (q:Rat):Bool:=decide (q.num<0)
def txtL (q:Rat):List UInt8:=(if negQ q then [45] else [])++(dec q.num.natAbs++(if q.den=1 then [] else 47::dec q.den))
def txt (q:Rat):ByteArray:=str (txtL q)
def limR (q:Rat):ByteArray × Nat:=if fitQ q then (txt q,0) else (str [],2)
theorem x5x (neg:Bool) (m:Nat):(sg neg m).natAbs=m:=by unfold sg;split<;>simp
theorem u1r {neg:Bool} {m:Nat}:sg neg m=0↔m=0:=by unfold sg;split<;>omega
theorem x7c {neg:Bool} {m:Nat}:sg neg m<0↔(neg=true/\m≠0):=by unfold sg;cases neg<;>simp<;>omega
theorem x0d (q:Rat):sg (negQ q) q.num.natAbs=q.num:=by unfold sg negQ;by_cases h:q.num<0<;>simp[h]<;>omega
theorem v4p {n:Int} {d:Nat} (c:d≠0) (h:Nat.gcd n.natAbs d=1):(mkRat n d).num=n/\(mkRat n d).den=d:=by
 have:=Rat.mk_eq_mkRat n d c h;rw[<- this];exact⟨rfl,rfl⟩
theorem z3w:dec 0=[48]:=by rw[z1m (by omega)];rfl
theorem z4i:dec 1=[49]:=by rw[z1m (by omega)];rfl
theorem x1k {neg:Bool} {n d:List UInt8} {c:Bool} (h:okP neg n d c=true) :
  z0w n=true/\z0w d=true/\n.length<=400/\d.length<=400/\(neg=true->n≠[48])/\(c=true->d≠[48]/\d≠[49])/\Nat.gcd (num n) (num d)=1:=by
 simp only[okP,Bool.and_eq_true,Bool.not_eq_true',decide_eq_true_eq] at h;obtain⟨⟨⟨⟨⟨⟨p,r⟩,o⟩,i⟩,s⟩,g⟩,j⟩:=h;refine⟨p,r,o,i,?_,?_,j⟩
 ·intro k e;subst k;subst e;simp at s
 intro l;subst l;simp at g;exact g
theorem u4n {neg:Bool} {n d:List UInt8} {c:Bool} (j:z0w n=true) (k:z0w d=true) (i:n.length<=400) (g:d.length<=400)
  (l:neg=true->n≠[48]) (o:c=true->d≠[48]/\d≠[49]) (h:Nat.gcd (num n) (num d)=1):okP neg n d c=true:=by
 simp only[okP,Bool.and_eq_true,Bool.not_eq_true',decide_eq_true_eq];refine⟨⟨⟨⟨⟨⟨j,k⟩,i⟩,g⟩,?_⟩,?_⟩,h⟩
 ·cases neg
  ·rfl
  have:=l rfl;simp[this]
 cases c
 ·rfl
 have:=o rfl;simp[this.1,this.2]
theorem y3j {l:List UInt8} (h:z0w l=true):num l=0↔l=[48]:=by
 constructor
 ·intro e;rw[<- z3x h,e,z3w]
 intro e;subst e;rfl
structure IsQ (q:Rat) (neg:Bool) (n d:List UInt8):Prop where
 sign:negQ q=neg
 top:dec q.num.natAbs=n
 bot:dec q.den=d
 topv:q.num.natAbs=num n
 botv:q.den=num d
 fit:fitQ q
theorem u1a {neg:Bool} {n d:List UInt8} {c:Bool} (h:okP neg n d c=true) (A:c=false->d=[49]):IsQ (mkRat (sg neg (num n)) (num d)) neg n d:=by
 obtain⟨r,o,v,u,C,z,B⟩:=x1k h;have s:num d≠0:=by
  intro e;have g:=(y3j o).1 e;cases p:c
  ·have:=A p;rw[this] at g;simp at g
  exact(z p).1 g
 obtain⟨l,e2⟩:=v4p (n:=sg neg (num n)) s (by rw[x5x];exact B);have i:(mkRat (sg neg (num n)) (num d)).num.natAbs=num n:=by rw[l,x5x]
 have j:dec (num n)=n:=z3x r;have k:dec (num d)=d:=z3x o;refine⟨?_,by rw[i,j],by rw[e2,k],i,e2,?_⟩
 ·unfold negQ;rw[l];cases neg
  ·simp[sg]
  have:num n≠0:=fun e=>C rfl ((y3j r).1 e);simp[sg];omega
 unfold fitQ;rw[i,e2,j,k];exact⟨v,u⟩
theorem y6p {l:List UInt8} {q:Rat} (h:prsL l=some q):okP (z4f l) (upTo (z1d l)) (denL (z1d l)) (hasS (z1d l))=true/\IsQ q (z4f l) (upTo (z1d l)) (denL (z1d l)):=by
 unfold prsL at h
 split at h
 ·rename_i c;have d:=Option.some.inj h;refine⟨c,?_⟩;rw[<- d];exact u1a c (fun h=>by unfold denL;rw[h];rfl)
 exact absurd h (by simp)
theorem v8m (l:List UInt8):l=(if z4f l then [45] else [])++z1d l:=by
 unfold z1d
 split
 ·rename_i h;cases l with
  | nil=>simp[z4f] at h
  | cons a l=>simp[z4f] at h;simp[h]
 simp
theorem z6c (l:List UInt8) (h:hasS l=true):l=upTo l++47::z6p l:=by
 induction l with
 | nil=>simp[hasS] at h
 | cons a l ih =>
  by_cases c:a=47
  ·subst c;simp[upTo,z6p]
  have:hasS l=true:=by simpa [hasS,c] using h
  have i:=ih this;have d:upTo (a::l)=a::upTo l:=by simp[upTo,c]
  have e2:z6p (a::l)=z6p l:=by simp[z6p,c]
  rw[d,e2,List.cons_append,<- i]
theorem y4n (l:List UInt8) (h:hasS l=false):upTo l=l:=by
 induction l with
 | nil=>rfl
 | cons a l ih =>
  simp[hasS] at h;have c:upTo (a::l)=a::upTo l:=by simp[upTo,h.1]
  rw[c,ih (by simp[hasS];exact h.2)]
theorem x9z {l:List UInt8} (h:dgts l=true):∀ c ∈ l,c≠47/\c≠45:=by
 intro c d;have:=List.all_eq_true.1 h c d;simp[dgt] at this
 constructor
 ·intro e;subst e;simp at this
 intro e;subst e;simp at this
theorem v6z {n r:List UInt8} (h:∀ c ∈ n,c≠47):upTo (n++47::r)=n/\z6p (n++47::r)=r/\hasS (n++47::r)=true:=by
 induction n with
 | nil=>simp[upTo,z6p,hasS]
 | cons a n ih =>
  have d:=h a (by simp);obtain⟨i1,i,j⟩:=ih (fun c g=>h c (by simp[g]));refine⟨?_,?_,by simp[hasS]⟩
  ·rw[List.cons_append];show upTo (a::_)=_;have:upTo (a::(n++47::r))=a::upTo (n++47::r):=by simp[upTo,d]
   rw[this,i1]
  have:z6p (a::(n++47::r))=z6p (n++47::r):=by simp[z6p,d]
  rw[List.cons_append,this,i]
theorem noS {n:List UInt8} (h:∀ c ∈ n,c≠47):hasS n=false:=by
 simp[hasS];exact h
theorem v2s {q:Rat} (h:fitQ q):prsL (txtL q)=some q:=by
 obtain⟨j,z⟩:=h;have v1:z0w (dec q.num.natAbs)=true:=y5s (by omega);have C:z0w (dec q.den)=true:=y5s (by omega);have i:∀ c ∈ dec q.num.natAbs,c≠47:=fun c s=>(x9z (z3b _) c s).1;have u:∀ R:List UInt8,z4f ((if negQ q then [45] else [])++(dec q.num.natAbs++R))=negQ q/\z1d ((if negQ q then [45] else [])++(dec q.num.natAbs++R))=dec q.num.natAbs++R:=by
  intro R;have:z4f ((if negQ q then [45] else [])++(dec q.num.natAbs++R))=negQ q:=by
   cases g:negQ q
   ·have k:=y8t q.num.natAbs;have j:=z3b q.num.natAbs
    revert k j
    generalize dec q.num.natAbs=l;intro k j;cases l with
    | nil=>simp at k
    | cons a l=>have:=(x9z j a (by simp)).2;simp[z4f,this]
   simp[z4f]
  refine⟨this,?_⟩;unfold z1d;rw[this];cases negQ q<;>simp
 have d:denL (dec q.num.natAbs++(if q.den=1 then [] else 47::dec q.den))=dec q.den/\upTo (dec q.num.natAbs++(if q.den=1 then [] else 47::dec q.den))=dec q.num.natAbs /\
   hasS (dec q.num.natAbs++(if q.den=1 then [] else 47::dec q.den))=decide (q.den≠1):=by
  by_cases g:q.den=1
  ·rw[if_pos g,List.append_nil,g];have:=noS i;refine⟨by unfold denL;rw[this,z4i];rfl,y4n _ this,by rw[this];simp⟩
  rw[if_neg g];obtain⟨i1,B,p⟩:=v6z (r:=dec q.den) i;exact⟨by unfold denL;rw[p,B];rfl,i1,by rw[p];simp[g]⟩
 obtain⟨v,e2⟩:=u (if q.den=1 then [] else 47::dec q.den)
 obtain⟨A,F,G⟩:=d;have D:okP (negQ q) (dec q.num.natAbs) (dec q.den) (decide (q.den≠1))=true:=by
  refine u4n v1 C j z ?_ ?_ ?_
  ·intro E e;have:q.num.natAbs=0:=z5v (e.trans z3w.symm);simp[negQ] at E;omega
  ·intro o;simp at o;refine⟨fun e=>?_,fun e=>o ?_⟩
   ·exact q.den_nz (z5v (e.trans z3w.symm))
   exact z5v (e.trans z4i.symm)
  rw[z4r,z4r];exact q.reduced
 unfold prsL txtL;rw[v,e2,A,F,G,if_pos D,z4r,z4r,x0d,Rat.mkRat_self]
theorem z1e {q:Rat} (h:fitQ q):prs (txt q)=some q:=by unfold prs txt;rw[z1f];exact v2s h
theorem v2f {l:List UInt8} {q:Rat} (h:prsL l=some q):l=txtL q/\fitQ q:=by
 obtain⟨k,c⟩:=y6p h;refine⟨?_,c.fit⟩;have e:=v8m l;have i:=x1k k;unfold txtL;rw[c.sign,c.top];have:z1d l=upTo (z1d l)++(if q.den=1 then [] else 47::dec q.den):=by
  cases d:hasS (z1d l)
  ·have g:denL (z1d l)=[49]:=by unfold denL;rw[d];rfl
   have:q.den=1:=z5v (c.bot.trans (g.trans z4i.symm));rw[if_pos this,List.append_nil,y4n _ d]
  have g:denL (z1d l)=z6p (z1d l):=by unfold denL;rw[d];rfl
  have:q.den≠1:=by
   intro o;have j:=c.bot;rw[o,z4i] at j;exact(i.2.2.2.2.2.1 d).2 j.symm
  rw[if_neg this,c.bot,g];exact z6c _ d
 rw[<- this];exact e
theorem z3f {s:ByteArray} {q:Rat} (h:prs s=some q):s=txt q/\fitQ q:=by
 obtain⟨d,c⟩:=v2f h;exact⟨by unfold txt;rw[<- d,z8p],c⟩
theorem u0z {p q:Rat} (c:fitQ p) (d:fitQ q) (h:txt p=txt q):p=q:=by
 have:=z1e c;rw[h,z1e d] at this;exact(Option.some.inj this).symm
def szQ (k:Nat) (q:Rat):Prop:=q.num.natAbs<10 ^ k/\q.den<10 ^ k
theorem x6h {q:Rat}:fitQ q↔szQ 400 q:=by
 unfold fitQ szQ;rw[z1p,z1p];omega
theorem szQ.mono {j k:Nat} {q:Rat} (h:szQ j q) (c:j<=k):szQ k q :=
 ⟨Nat.lt_of_lt_of_le h.1 (Nat.pow_le_pow_right (by omega) c),Nat.lt_of_lt_of_le h.2 (Nat.pow_le_pow_right (by omega) c)⟩
theorem x5h {n:Int} {d:Nat} (c:d≠0):(mkRat n d).num.natAbs<=n.natAbs/\(mkRat n d).den<=d:=by
 rw[Rat.num_mkRat,Rat.den_mkRat,if_neg c,if_neg c];exact⟨by rw[Int.natAbs_ediv_of_dvd];exact Nat.div_le_self _ _;exact Int.ofNat_dvd_left.2 (Nat.gcd_dvd_right _ _),Nat.div_le_self _ _⟩
theorem y7g {a b A B:Nat} (c:a<A) (d:b<B):a*b<A*B:=by
 rcases Nat.eq_zero_or_pos b with h|h
 ·subst h;rw[Nat.mul_zero];exact Nat.mul_pos (by omega) (by omega)
 exact Nat.lt_of_lt_of_le (Nat.mul_lt_mul_of_pos_right c h) (Nat.mul_le_mul_left _ (by omega))
theorem szQ.mul {j k:Nat} {p q:Rat} (c:szQ j p) (g:szQ k q):szQ (j+k) (p*q):=by
 rw[Rat.mul_def'];obtain⟨h,i⟩:=x5h (n:=p.num*q.num) (d:=p.den*q.den) (Nat.mul_ne_zero p.den_nz q.den_nz);rw[Int.natAbs_mul] at h
 constructor
 ·rw[Nat.pow_add];exact Nat.lt_of_le_of_lt h (y7g c.1 g.1)
 rw[Nat.pow_add];exact Nat.lt_of_le_of_lt i (y7g c.2 g.2)
theorem szQ.add {j k:Nat} {p q:Rat} (g:szQ j p) (c:szQ k q):szQ (j+k+1) (p+q):=by
 rw[Rat.add_def'];obtain⟨l,r⟩:=x5h (n:=p.num*q.den+q.num*p.den) (d:=p.den*q.den) (Nat.mul_ne_zero p.den_nz q.den_nz);have h:=Int.natAbs_add_le (p.num*q.den) (q.num*p.den);rw[Int.natAbs_mul,Int.natAbs_mul,Int.natAbs_natCast,Int.natAbs_natCast] at h;have o:=y7g g.1 c.2;have i:=y7g c.1 g.2;have s:=y7g g.2 c.2;rw[Nat.mul_comm (10 ^ k)] at i
 constructor
 ·rw[Nat.pow_succ,Nat.pow_add];omega
 rw[Nat.pow_succ,Nat.pow_add];omega
theorem szQ.neg {j:Nat} {p:Rat} (c:szQ j p):szQ j (-p):=by
 refine⟨?_,?_⟩
 ·rw[Rat.neg_num,Int.natAbs_neg];exact c.1
 rw[Rat.neg_den];exact c.2
theorem z3k {q:Rat} (h:fitQ q):(txt q).size<=802:=by
 unfold txt;rw[z0s];unfold txtL;obtain⟨d,c⟩:=h;simp only[List.length_append];have:(if negQ q then [45] else ([]:List UInt8)).length<=1:=by split<;>simp
 have:(if q.den=1 then [] else 47::dec q.den).length<=401:=by split<;>simp;omega
 omega
theorem x1x (q:Rat):(limR q).1.size<=802:=by
 unfold limR;split
 ·rename_i h;exact z3k h
 rw[z0s];simp
theorem z9x {q:Rat} (h:fitQ q):limR q=(txt q,0):=by unfold limR;rw[if_pos h]
theorem y1h {q:Rat} (h:¬ fitQ q):limR q=(str [],2):=by unfold limR;rw[if_neg h]
def z2m (a b:ByteArray):ByteArray × Nat:=match prs a,prs b with|some x,some y=>limR (x+y)|_,_=>(str [],1)
def z5x (a b:ByteArray):ByteArray × Nat:=match prs a,prs b with|some x,some y=>limR (x*y)|_,_=>(str [],1)
def cmpQ (x y:Rat):Int:=if x<y then -1 else if x=y then 0 else 1
def z3q (a b:ByteArray):Int:=match prs a,prs b with|some x,some y=>cmpQ x y|_,_=>0
def sumF (p:Bool) (a:Nat) (q:Bool) (b:Nat):Bool × Nat:=if p=q then (p,a+b) else if a<b then (q,b-a) else (p,a-b)
theorem x4z (p:Bool) (a:Nat) (q:Bool) (b:Nat):sg (sumF p a q b).1 (sumF p a q b).2=sg p a+sg q b:=by
 unfold sumF sg;cases p<;>cases q<;>simp<;>(try split)<;>(try simp)<;>omega
theorem v5c (p:Bool) (a:Nat) (q:Bool) (b:Nat):(sumF p a q b).2<=a+b:=by
 unfold sumF;split
 ·exact Nat.le_refl _
 split<;>simp<;>omega
theorem u4t (p q:Bool) (m n:Nat):sg p m*sg q n=sg (p != q) (m*n):=by
 unfold sg;cases p<;>cases q<;>simp[Int.neg_mul,Int.mul_neg]
theorem u3v (p:Bool) (m n:Nat):sg p m*(n:Int)=sg p (m*n):=by
 unfold sg;cases p<;>simp[Int.neg_mul]
theorem u5j (p:Bool) (m:Nat):sg (!p) m=- sg p m:=by unfold sg;cases p<;>simp
theorem y4b (x:Rat) (d:Nat):x.num*(d:Int)=sg (negQ x) (x.num.natAbs*d):=by
 rw[<- u3v,x0d]
theorem v9y (x y:Rat):x+y=mkRat (sg (sumF (negQ x) (x.num.natAbs*y.den) (negQ y) (y.num.natAbs*x.den)).1 (sumF (negQ x) (x.num.natAbs*y.den) (negQ y) (y.num.natAbs*x.den)).2) (x.den*y.den):=by
 rw[x4z,<- y4b,<- y4b,Rat.add_def']
theorem u0a (x y:Rat):x*y=mkRat (sg (negQ x != negQ y) (x.num.natAbs*y.num.natAbs)) (x.den*y.den):=by
 rw[<- u4t,x0d,x0d,Rat.mul_def']
theorem v8u (x y:Rat):cmpQ x y=if (sumF (negQ x) (x.num.natAbs*y.den) (!negQ y) (y.num.natAbs*x.den)).2=0 then 0 else if (sumF (negQ x) (x.num.natAbs*y.den) (!negQ y) (y.num.natAbs*x.den)).1=true then -1 else 1:=by
 have h:=x4z (negQ x) (x.num.natAbs*y.den) (!negQ y) (y.num.natAbs*x.den);rw[u5j,<- y4b,<- y4b] at h;unfold cmpQ;have d:=Rat.lt_iff x y;have e2:=Rat.eq_iff_mul_eq_mul (p:=x) (q:=y);generalize sumF (negQ x) (x.num.natAbs*y.den) (!negQ y) (y.num.natAbs*x.den)=r at h ⊢;obtain⟨s,k⟩:=r;simp only at h ⊢;by_cases c:k=0
 ·rw[if_pos c];have:sg s k=0:=u1r.2 c;rw[if_neg (by rw[d];omega),if_pos (by rw[e2];omega)]
 rw[if_neg c];cases s
 ·have:0<sg false k:=by unfold sg;simp;omega
  rw[if_neg (by rw[d];omega),if_neg (by rw[e2];omega)];rfl
 have:sg true k<0:=by unfold sg;simp;omega
 rw[if_pos (by rw[d];omega)];rfl
theorem x1h (z:Int) (d:Nat) (g:d≠0):(mkRat z d).num.natAbs=z.natAbs / Nat.gcd z.natAbs d/\(mkRat z d).den=d / Nat.gcd z.natAbs d/\negQ (mkRat z d)=decide (z<0):=by
 have c:=Rat.num_mkRat z d;have h:=Rat.den_mkRat z d;rw[if_neg g,Nat.gcd_comm] at c h;have i:(Nat.gcd z.natAbs d:Int) ∣ z:=Int.ofNat_dvd_left.2 (Nat.gcd_dvd_left _ _);have j:0<Nat.gcd z.natAbs d:=Nat.gcd_pos_of_pos_right _ (Nat.pos_of_ne_zero g);refine⟨?_,h,?_⟩
 ·rw[c,Int.natAbs_ediv_of_dvd i,Int.natAbs_natCast]
 unfold negQ;rw[c];have:z / (Nat.gcd z.natAbs d:Int)<0↔z<0:=by
  rw[Int.ediv_lt_iff_lt_mul (by omega)];simp
 rw[decide_eq_decide];exact this
end
section
inductive V where
 | inf|low|fin (q:Rat)
 deriving DecidableEq
def infS:ByteArray:=⟨#[105,110,102]⟩
def lowS:ByteArray:=⟨#[45,105,110,102]⟩
def okV (k:Int):V->Prop
 | .inf=>1<=k/\k<=3
 | .low=>k=1
 | .fin q=>k=1\/((k=2\/k=3)/\0<=q)
instance (k:Int) (v:V):Decidable (okV k v):=by cases v<;>unfold okV<;>infer_instance
def rdV (s:ByteArray):Option V:=if s=infS then some .inf else if s=lowS then some .low else (prs s).map .fin
def vprs (k:Int) (s:ByteArray):Option V:=(rdV s).filter fun v=>decide (okV k v)
def vtxt:V->ByteArray
 | .inf=>infS
 | .low=>lowS
 | .fin q=>txt q
def fitV:V->Prop
 | .fin q=>fitQ q
 | _=>True
def limV:V->ByteArray × Nat
 | .fin q=>limR q
 | v=>(vtxt v,0)
def cmpV:V->V->Int
 | .inf,.inf=>0
 | .low,.low=>0
 | .low,_=>-1
 | _,.inf=>-1
 | _,.low=>1
 | .inf,_=>1
 | .fin x,.fin y=>cmpQ x y
def zeroV (k:Int):V:=if k=1 then .inf else .fin 0
def oneV (k:Int):V:=if k=1 then .fin 0 else .fin 1
def addV:V->V->V
 | .fin x,.fin y=>.fin (x+y)
 | _,_=>.inf
def z1t (k:Int) (v w:V):V:=if k=2 then addV v w else if k=1 then (if 0<cmpV v w then w else v) else (if cmpV v w<0 then w else v)
def z0d (k:Int) (v w:V):V :=
 if v=zeroV k\/w=zeroV k then zeroV k else match v,w with
  | .inf,_=>.inf
  | _,.inf=>.inf
  | .low,_=>.low
  | _,.low=>.low
  | .fin x,.fin y=>if k=1 then .fin (x+y) else .fin (x*y)
def z8j (k:Int) (v:V):V :=
 if k=1 then (if 0<=cmpV v (.fin 0) then .fin 0 else .low)
 else if k=3 then (if cmpV v (.fin 1)<=0 then .fin 1 else .inf)
 else match v with
  | .fin x=>if 0<=cmpQ x 1 then .inf else .fin (1 / (1-x))
  | _=>.inf
def wtV (k:Int):V->Prop
 | .fin q=>k=1\/((k=2\/k=3)/\0<q)
 | _=>False
instance (k:Int) (v:V):Decidable (wtV k v):=by cases v<;>unfold wtV<;>infer_instance
def z8e (k:Int) (v w:V):Int:=if k=1 then cmpV v w else cmpV w v
def argS:ByteArray × Nat:=(str [],1)
def z0f (k:Int) (a:ByteArray):Bool:=(vprs k a).isSome
def z0r (k:Int) (a:ByteArray):Bool:=match rdV a with|some v=>decide (wtV k v)|none=>false
def z8i (k:Int):Bool:=decide (1<=k)&&decide (k<=3)
def z2b (k:Int):ByteArray:=if z8i k then vtxt (zeroV k) else str []
def oneF (k:Int):ByteArray:=if z8i k then vtxt (oneV k) else str []
def z1r (k:Int) (a b:ByteArray):ByteArray × Nat:=match vprs k a,vprs k b with|some v,some w=>limV (z1t k v w)|_,_=>argS
def z0y (k:Int) (a b:ByteArray):ByteArray × Nat:=match vprs k a,vprs k b with|some v,some w=>limV (z0d k v w)|_,_=>argS
def u4g (k:Int) (v w:V):Prop:=(v=zeroV k\/wtV k v)/\wtV k w
instance (k:Int) (v w:V):Decidable (u4g k v w):=inferInstanceAs (Decidable (_/\_))
def z1a (k:Int) (a b:ByteArray):Int:=match vprs k a,vprs k b with|some v,some w=>z8e k v w|_,_=>0
theorem y0z:prs infS=none:=by decide +kernel
theorem y2x:prs lowS=none:=by decide +kernel
theorem y9i {v:V} (h:fitV v):rdV (vtxt v)=some v:=by
 cases v with
 | inf=>simp[rdV,vtxt]
 | low=>simp[rdV,vtxt,show lowS≠infS by decide]
 | fin q =>
  have c:=z1e h;have d:txt q≠infS:=by intro e;rw[e,y0z] at c;simp at c
  have g:txt q≠lowS:=by intro e;rw[e,y2x] at c;simp at c
  simp[rdV,vtxt,d,g,c]
theorem z8f {s:ByteArray} {v:V} (h:rdV s=some v):s=vtxt v/\fitV v:=by
 unfold rdV at h
 split at h
 ·rename_i e;have:=Option.some.inj h;subst this;exact⟨e,trivial⟩
 split at h
 ·rename_i e;have:=Option.some.inj h;subst this;exact⟨e,trivial⟩
 cases c:prs s with
 | none=>rw[c] at h;simp at h
 | some q=>rw[c] at h;simp at h;subst h;exact z3f c
theorem z5i {k:Int} {s:ByteArray} {v:V}:vprs k s=some v↔rdV s=some v/\okV k v:=by
 unfold vprs;rw[Option.filter_eq_some_iff];simp
theorem x0a {v w:V} (d:fitV v) (c:fitV w) (h:vtxt v=vtxt w):v=w:=by
 have:=y9i d;rw[h,y9i c] at this;exact(Option.some.inj this).symm
theorem y4i {k:Int} {v:V} (h:fitV v) (c:okV k v):vprs k (vtxt v)=some v:=z5i.2 ⟨y9i h,c⟩
theorem z8c {v:V} (h:fitV v):limV v=(vtxt v,0):=by cases v<;>first|rfl|exact z9x h
def leV:V->V->Prop
 | .low,_=>True
 | _,.inf=>True
 | .fin x,.fin y=>x<=y
 | _,_=>False
theorem z1c (x y:Rat):(x<y/\cmpQ x y=-1)\/(x=y/\cmpQ x y=0)\/(y<x/\cmpQ x y=1):=by
 unfold cmpQ;by_cases c:x<y
 ·left;rw[if_pos c];exact⟨c,rfl⟩
 by_cases d:x=y
 ·right;left;rw[if_neg c,if_pos d];exact⟨d,rfl⟩
 right;right;rw[if_neg c,if_neg d]
 refine⟨?_,rfl⟩;exact Rat.lt_of_le_of_ne (Rat.not_lt.1 c) (Ne.symm d)
theorem z7b (v w:V):cmpV v w<=0↔leV v w:=by
 cases v<;>cases w<;>simp[cmpV,leV]
 rename_i x y
 rcases z1c x y with ⟨h,e⟩|⟨h,e⟩|⟨h,e⟩<;>rw[e]
 ·simp[Rat.le_of_lt h]
 ·subst h;simp
 simp;exact Rat.not_le.2 h
theorem y7y (v w:V):cmpV v w=-1\/cmpV v w=0\/cmpV v w=1:=by
 cases v<;>cases w<;>simp[cmpV]
 rename_i x y
 rcases z1c x y with ⟨h,e⟩|⟨h,e⟩|⟨h,e⟩<;>simp[e]
theorem y1k (v w:V):cmpV v w=0↔v=w:=by
 cases v<;>cases w<;>simp[cmpV]
 rename_i x y
 rcases z1c x y with ⟨h,e⟩|⟨h,e⟩|⟨h,e⟩<;>rw[e]
 ·simp;exact Rat.ne_of_lt h
 ·simp[h]
 simp;exact Rat.ne_of_gt h
theorem z7k (v w:V):cmpV w v=- cmpV v w:=by
 cases v<;>cases w<;>simp[cmpV]
 rename_i x y
 rcases z1c x y with ⟨h,e⟩|⟨h,e⟩|⟨h,e⟩<;>rcases z1c y x with ⟨c,d⟩|⟨c,d⟩|⟨c,d⟩<;>rw[e,d]<;>try rfl
 ·exact absurd (Rat.le_of_lt c) (Rat.not_le.2 h)
 ·subst c;exact absurd h Rat.lt_irrefl
 ·subst h;exact absurd c Rat.lt_irrefl
 ·subst h;exact absurd c Rat.lt_irrefl
 ·subst c;exact absurd h Rat.lt_irrefl
 exact absurd (Rat.le_of_lt c) (Rat.not_le.2 h)
theorem z5y (v:V):leV v v:=by rw[<- z7b,(y1k v v).2 rfl];omega
theorem z2w (v w:V):leV v w\/leV w v:=by rw[<- z7b,<- z7b,z7k v w];omega
theorem z6u {v w:V} (d:leV v w) (c:leV w v):v=w:=by
 rw[<- z7b] at d c;rw[z7k v w] at c;exact(y1k v w).1 (by omega)
theorem z3s {u v w:V} (d:leV u v) (c:leV v w):leV u w:=by
 cases u<;>cases v<;>cases w<;>simp_all [leV]
 exact Rat.le_trans d c
noncomputable def minV (v w:V):V:=open Classical in if leV v w then v else w
noncomputable def maxV (v w:V):V:=open Classical in if leV w v then v else w
theorem u2c (v w:V):(if 0<cmpV v w then w else v)=minV v w:=by
 unfold minV;have:=z7b v w;by_cases h:leV v w
 ·rw[if_pos h,if_neg];have:=this.2 h;omega
 rw[if_neg h,if_pos];have:¬ cmpV v w<=0:=fun c=>h (this.1 c);omega
theorem u3g (v w:V):(if cmpV v w<0 then w else v)=maxV v w:=by
 unfold maxV;have:=z7b w v;rw[z7k v w] at this;by_cases h:leV w v
 ·rw[if_pos h,if_neg];have:=this.2 h;omega
 rw[if_neg h,if_pos];have:¬ -cmpV v w<=0:=fun c=>h (this.1 c);omega
theorem z4c {v w:V} (h:leV v w):minV v w=v:=by unfold minV;rw[if_pos h]
theorem z4m {v w:V} (h:leV w v):minV v w=w:=by
 unfold minV;by_cases c:leV v w
 ·rw[if_pos c];exact z6u c h
 rw[if_neg c]
theorem z5d {v w:V} (h:leV v w):maxV v w=w:=by
 unfold maxV;by_cases c:leV w v
 ·rw[if_pos c];exact z6u h c ▸ rfl
 rw[if_neg c]
theorem z4q {v w:V} (h:leV w v):maxV v w=v:=by unfold maxV;rw[if_pos h]
theorem v3h (v w:V):minV v w=minV w v:=by
 rcases z2w v w with h|h
 ·rw[z4c h,z4m h]
 rw[z4m h,z4c h]
theorem v0d (v w:V):maxV v w=maxV w v:=by
 rcases z2w v w with h|h
 ·rw[z5d h,z4q h]
 rw[z4q h,z5d h]
theorem x9b (u v w:V):minV (minV u v) w=minV u (minV v w):=by
 rcases z2w u v with c|c<;>rcases z2w v w with d|d
 ·rw[z4c c,z4c d,z4c c,z4c (z3s c d)]
 ·rw[z4c c,z4m d]
 ·rw[z4m c,z4c d,z4m c]
 rw[z4m c,z4m d,z4m (z3s d c)]
theorem x7h (u v w:V):maxV (maxV u v) w=maxV u (maxV v w):=by
 rcases z2w u v with c|c<;>rcases z2w v w with d|d
 ·rw[z5d c,z5d d,z5d (z3s c d)]
 ·rw[z5d c,z4q d,z5d c]
 ·rw[z4q c,z5d d]
 rw[z4q c,z4q d,z4q c,z4q (z3s d c)]
theorem v8t {f:V->V} (v w:V) (c:∀ x y,(x=v\/x=w)->(y=v\/y=w)->leV x y->leV (f x) (f y)):f (minV v w)=minV (f v) (f w):=by
 rcases z2w v w with h|h
 ·rw[z4c h,z4c (c v w (.inl rfl) (.inr rfl) h)]
 rw[z4m h,z4m (c w v (.inr rfl) (.inl rfl) h)]
theorem v6x {f:V->V} (v w:V) (c:∀ x y,(x=v\/x=w)->(y=v\/y=w)->leV x y->leV (f x) (f y)):f (maxV v w)=maxV (f v) (f w):=by
 rcases z2w v w with h|h
 ·rw[z5d h,z5d (c v w (.inl rfl) (.inr rfl) h)]
 rw[z4q h,z4q (c w v (.inr rfl) (.inl rfl) h)]
theorem z5m (v w:V):z1t 1 v w=minV v w:=by unfold z1t;rw[if_neg (by decide),if_pos rfl,u2c]
theorem z7m (v w:V):z1t 2 v w=addV v w:=by unfold z1t;rw[if_pos rfl]
theorem y1v (v w:V):z1t 3 v w=maxV v w:=by unfold z1t;rw[if_neg (by decide),if_neg (by decide),u3g]
theorem z4h {k:Int} {v:V} (h:okV k v):k=1\/k=2\/k=3:=by
 cases v<;>simp only[okV] at h<;>omega
theorem z0t {k:Int} {v:V} (h:okV k v) (c:k≠1):v≠.low:=by
 intro e;subst e;exact c h
theorem z5n {k:Int} {v:V} (h:okV k v) (c:k≠1):v=.inf\/∃ q,v=.fin q/\0<=q:=by
 cases v with
 | inf=>exact .inl rfl
 | low=>exact absurd h c
 | fin q=>right;refine⟨q,rfl,?_⟩;simp only[okV] at h;rcases h with h|h;exact absurd h c;exact h.2
theorem times1 (v w:V):z0d 1 v w=match v,w with
  | .inf,_=>.inf
  | _,.inf=>.inf
  | .low,_=>.low
  | _,.low=>.low
  | .fin x,.fin y=>.fin (x+y):=by
 unfold z0d zeroV;cases v<;>cases w<;>simp
def mulV (v w:V):V :=
 if v=.fin 0\/w=.fin 0 then .fin 0 else match v,w with
  | .fin x,.fin y=>.fin (x*y)
  | _,_=>.inf
theorem times23 {k:Int} (c:k≠1) {v w:V} (g:v≠.low) (d:w≠.low):z0d k v w=mulV v w:=by
 unfold z0d mulV zeroV;rw[if_neg c];by_cases h:v=.fin 0\/w=.fin 0
 ·rw[if_pos h,if_pos h]
 rw[if_neg h,if_neg h];cases v<;>cases w<;>simp_all
theorem x3q (v w:V):z0d 1 v w=z0d 1 w v:=by
 rw[times1,times1];cases v<;>cases w<;>simp;exact Rat.add_comm ..
theorem x2a (u v w:V):z0d 1 (z0d 1 u v) w=z0d 1 u (z0d 1 v w):=by
 simp only[times1];cases u<;>cases v<;>cases w<;>simp;exact Rat.add_assoc ..
theorem x2w (u:V) {v w:V} (h:leV v w):leV (z0d 1 u v) (z0d 1 u w):=by
 simp only[times1];cases u<;>cases v<;>cases w<;>simp_all [leV]
 exact Rat.add_le_add_left.2 h
theorem x9u (v w:V):mulV v w=mulV w v:=by
 unfold mulV;by_cases h:v=V.fin 0\/w=V.fin 0
 ·rw[if_pos h,if_pos h.symm]
 rw[if_neg h,if_neg (fun e=>h e.symm)];cases v<;>cases w<;>simp;exact Rat.mul_comm ..
theorem z2f (v:V):mulV v (.fin 0)=.fin 0:=by unfold mulV;simp
theorem z2h (v:V):mulV (.fin 0) v=.fin 0:=by unfold mulV;simp
theorem z1z (x y:Rat):mulV (.fin x) (.fin y)=.fin (x*y):=by
 unfold mulV;split
 ·rename_i h
  rcases h with h|h<;>(injection h with h;subst h;simp)
 rfl
theorem z2v {y:Rat} (h:y≠0):mulV .inf (.fin y)=.inf:=by unfold mulV;simp[h]
theorem z2q {y:Rat} (h:y≠0):mulV (.fin y) .inf=.inf:=by unfold mulV;simp[h]
theorem z5k:mulV .inf .inf=.inf:=by unfold mulV;simp
theorem x8r {u v w:V} (l:u≠.low) (k:v≠.low) (i:w≠.low):mulV (mulV u v) w=mulV u (mulV v w):=by
 by_cases c:u=.fin 0
 ·subst c;simp only[z2h]
 by_cases d:v=.fin 0
 ·subst d;simp only[z2h,z2f]
 by_cases g:w=.fin 0
 ·subst g;simp only[z2f]
 have inj:∀ {x:Rat},V.fin x≠V.fin 0->x≠0:=fun h e=>h (by rw[e]);cases u with
 | low=>exact absurd rfl l
 | inf =>
  cases v with
  | low=>exact absurd rfl k
  | inf=>cases w with
   | low=>exact absurd rfl i
   | inf=>rfl
   | fin z=>rw[z5k,z2v (inj g),z5k]
  | fin y=>cases w with
   | low=>exact absurd rfl i
   | inf=>rw[z2v (inj d),z2q (inj d)]
   | fin z =>
    rw[z2v (inj d),z2v (inj g),z1z,z2v];intro e;rcases Rat.mul_eq_zero.1 e with e|e
    ·exact inj d e
    exact inj g e
 | fin x =>
  cases v with
  | low=>exact absurd rfl k
  | inf=>cases w with
   | low=>exact absurd rfl i
   | inf=>rw[z2q (inj c),z5k,z2q (inj c)]
   | fin z=>rw[z2q (inj c),z2v (inj g),z2q (inj c)]
  | fin y =>
   have j:x*y≠0:=by
    intro e;rcases Rat.mul_eq_zero.1 e with e|e
    ·exact inj c e
    exact inj d e
   cases w with
   | low=>exact absurd rfl i
   | inf=>rw[z1z,z2q j,z2q (inj d),z2q (inj c)]
   | fin z=>rw[z1z,z1z,z1z,z1z,Rat.mul_assoc]
theorem v0x {u v w:V} (l:u=.inf\/∃ q,u=.fin q/\0<=q) (j:v=.inf\/∃ q,v=.fin q/\0<=q) (k:w=.inf\/∃ q,w=.fin q/\0<=q) (h:leV v w):leV (mulV u v) (mulV u w):=by
 rcases l with rfl|⟨x,rfl,o⟩
 ·rcases k with rfl|⟨z,rfl,p⟩
  ·rw[z5k];cases mulV .inf v<;>simp[leV]
  rcases j with rfl|⟨y,rfl,i⟩
  ·exact h.elim
  by_cases g:y=0
  ·subst g;rw[z2f];by_cases c:z=0
   ·subst c;rw[z2f];exact z5y _
   rw[z2v c];trivial
  have c:z≠0:=by
   intro e;subst e;exact g (Rat.le_antisymm h i)
  rw[z2v g,z2v c];trivial
 by_cases d:x=0
 ·subst d;rw[z2h,z2h];exact z5y _
 rcases k with rfl|⟨z,rfl,p⟩
 ·rw[z2q d];cases mulV (.fin x) v<;>simp[leV]
 rcases j with rfl|⟨y,rfl,i⟩
 ·exact h.elim
 rw[z1z,z1z];exact Rat.mul_le_mul_of_nonneg_left h o
theorem v3z (v w:V):addV v w=addV w v:=by cases v<;>cases w<;>simp[addV];exact Rat.add_comm ..
theorem x9c (u v w:V):addV (addV u v) w=addV u (addV v w):=by cases u<;>cases v<;>cases w<;>simp[addV];exact Rat.add_assoc ..
theorem v4n {u v w:V} (i:u=.inf\/∃ q,u=.fin q/\0<=q) (l:v=.inf\/∃ q,v=.fin q/\0<=q) (p:w=.inf\/∃ q,w=.fin q/\0<=q) :
  mulV u (addV v w)=addV (mulV u v) (mulV u w):=by
 rcases l with rfl|⟨y,rfl,j⟩
 ·by_cases g:u=.fin 0
  ·subst g;rw[z2h,z2h,z2h];simp[addV,Rat.add_zero]
  have:mulV u .inf=.inf:=by
   rcases i with rfl|⟨x,rfl,_⟩
   ·exact z5k
   exact z2q (fun e=>g (by rw[e]))
  have h:addV .inf w=.inf:=by cases w<;>rfl
  rw[h,this];cases mulV u w<;>rfl
 rcases p with rfl|⟨z,rfl,k⟩
 ·by_cases g:u=.fin 0
  ·subst g;rw[z2h,z2h,z2h];simp[addV,Rat.add_zero]
  have:mulV u .inf=.inf:=by
   rcases i with rfl|⟨x,rfl,_⟩
   ·exact z5k
   exact z2q (fun e=>g (by rw[e]))
  have h:addV (.fin y) .inf=.inf:=rfl;rw[h,this];cases mulV u (.fin y)<;>rfl
 rcases i with rfl|⟨x,rfl,r⟩
 ·simp only[addV];by_cases c:y=0
  ·subst c;rw[z2f,Rat.zero_add];by_cases d:z=0
   ·subst d;rw[z2f];simp[Rat.add_zero]
   rw[z2v d]
  have:y+z≠0:=by
   intro e;have o:y<=0:=by
    have:y+0<=y+z:=Rat.add_le_add_left.2 k;rw[e,Rat.add_zero] at this;exact this
   exact c (Rat.le_antisymm o j)
  rw[z2v c,z2v this]
 simp only[addV];rw[z1z,z1z,z1z,Rat.mul_add]
end
section
def szV (k:Nat):V->Prop
 | .fin q=>szQ k q
 | _=>True
theorem szV.mono {j k:Nat} {v:V} (h:szV j v) (c:j<=k):szV k v:=by cases v<;>first|trivial|exact szQ.mono h c
theorem szV.fit {k:Nat} {v:V} (h:szV k v) (c:k<=400):fitV v:=by
 cases v<;>first|trivial|exact x6h.2 (szQ.mono h c)
theorem x5r {k:Nat} (c:1<=k):szQ k 0:=by
 have:1<10 ^ k:=Nat.one_lt_pow (by omega) (by omega);exact⟨by show (0:Int).natAbs<_;simp;omega,by show 1<_;exact this⟩
theorem u1z {k:Nat} (c:1<=k):szQ k 1:=by
 have:1<10 ^ k:=Nat.one_lt_pow (by omega) (by omega);exact⟨by show (1:Int).natAbs<_;simpa using this,by show 1<_;exact this⟩
theorem x6w (kd:Int) {k:Nat} (c:1<=k):szV k (zeroV kd):=by unfold zeroV;split;trivial;exact x5r c
theorem u1c (kd:Int) {k:Nat} (c:1<=k):szV k (oneV kd):=by unfold oneV;split;exact x5r c;exact u1z c
theorem x6m {k:Int} (c:k=1\/k=2\/k=3):okV k (zeroV k):=by
 unfold zeroV;split
 ·rename_i h;subst h;exact⟨by omega,by omega⟩
 right;exact⟨by omega,Rat.le_refl⟩
theorem v1u {k:Int} (c:k=1\/k=2\/k=3):okV k (oneV k):=by
 unfold oneV;split
 ·rename_i h;exact .inl h
 right;exact⟨by omega,by decide⟩
theorem z7v {k:Int} (c:k=1\/k=2\/k=3):okV k .inf:=⟨by omega,by omega⟩
theorem z9f {k:Int} {v w:V} (d:okV k v) (i:okV k w):okV k (z1t k v w):=by
 have c:=z4h d;unfold z1t
 split
 ·rename_i j
  rcases z5n d (by omega) with rfl|⟨x,rfl,h⟩
  ·exact z7v c
  rcases z5n i (by omega) with rfl|⟨y,rfl,g⟩
  ·exact z7v c
  exact .inr ⟨by omega,Rat.add_nonneg h g⟩
 split<;>split<;>assumption
theorem z6m {k:Int} {v w:V} (d:okV k v) (h:okV k w):okV k (z0d k v w):=by
 have g:=z4h d;by_cases c:k=1
 ·subst c;rw[times1];cases v<;>cases w<;>simp[okV]
 rw[times23 c (z0t d c) (z0t h c)];unfold mulV
 split
 ·exact .inr ⟨by omega,Rat.le_refl⟩
 rcases z5n d c with rfl|⟨x,rfl,j⟩
 ·exact z7v g
 rcases z5n h c with rfl|⟨y,rfl,i⟩
 ·exact z7v g
 exact .inr ⟨by omega,Rat.mul_nonneg j i⟩
theorem y7p {k:Int} {v w:V} (c:okV k v):z1t k v w=z1t k w v:=by
 rcases z4h c with rfl|rfl|rfl
 ·rw[z5m,z5m,v3h]
 ·rw[z7m,z7m,v3z]
 rw[y1v,y1v,v0d]
theorem y0q {k:Int} {u v w:V} (c:okV k v):z1t k (z1t k u v) w=z1t k u (z1t k v w):=by
 rcases z4h c with rfl|rfl|rfl
 ·simp only[z5m];rw[x9b]
 ·simp only[z7m];rw[x9c]
 simp only[y1v];rw[x7h]
theorem y6g {k:Int} {v w:V} (g:okV k v) (d:okV k w):z0d k v w=z0d k w v:=by
 by_cases c:k=1
 ·subst c;exact x3q v w
 rw[times23 c (z0t g c) (z0t d c),times23 c (z0t d c) (z0t g c),x9u]
theorem x1a {k:Int} {u v w:V} (h:okV k u) (d:okV k v) (g:okV k w):z0d k (z0d k u v) w=z0d k u (z0d k v w):=by
 by_cases c:k=1
 ·subst c;exact x2a u v w
 rw[times23 c (z0t (z6m h d) c) (z0t g c),times23 c (z0t h c) (z0t (z6m d g) c),times23 c (z0t h c) (z0t d c),times23 c (z0t d c) (z0t g c)];exact x8r (z0t h c) (z0t d c) (z0t g c)
theorem x4a {k:Int} {u v w:V} (d:okV k u) (g:okV k v) (i:okV k w) (h:leV v w):leV (z0d k u v) (z0d k u w):=by
 by_cases c:k=1
 ·subst c;exact x2w u h
 rw[times23 c (z0t d c) (z0t g c),times23 c (z0t d c) (z0t i c)];exact v0x (z5n d c) (z5n g c) (z5n i c) h
theorem x2k {k:Int} {u v w:V} (d:okV k u) (g:okV k v) (i:okV k w):z0d k u (z1t k v w)=z1t k (z0d k u v) (z0d k u w):=by
 have j:∀ x y,(x=v\/x=w)->(y=v\/y=w)->leV x y->leV (z0d k u x) (z0d k u y):=by
  intro x y o l h;refine x4a d ?_ ?_ h
  ·rcases o with rfl|rfl<;>assumption
  rcases l with rfl|rfl<;>assumption
 rcases z4h d with rfl|rfl|rfl
 ·rw[z5m,z5m];exact v8t (f:=z0d 1 u) v w j
 ·have c:(2:Int)≠1:=by decide
  rw[times23 c (z0t d c) (z0t (z9f g i) c),times23 c (z0t d c) (z0t g c),times23 c (z0t d c) (z0t i c),z7m,z7m];exact v4n (z5n d c) (z5n g c) (z5n i c)
 rw[y1v,y1v];exact v6x (f:=z0d 3 u) v w j
theorem x8z {k:Int} {v:V} (c:okV k v):z1t k v (zeroV k)=v:=by
 rcases z4h c with rfl|rfl|rfl
 ·rw[z5m];exact z4c (by cases v<;>trivial)
 ·rw[z7m];show addV v (.fin 0)=v
  rcases z5n c (by decide) with rfl|⟨x,rfl,d⟩
  ·rfl
  simp[addV,Rat.add_zero]
 rw[y1v];show maxV v (.fin 0)=v
 rcases z5n c (by decide) with rfl|⟨x,rfl,d⟩
 ·exact z4q trivial
 exact z4q d
theorem z9h {k:Int} {v:V} (d:okV k v):z0d k v (oneV k)=v:=by
 by_cases c:k=1
 ·subst c;rw[times1];cases v<;>simp[oneV,Rat.add_zero]
 rw[times23 c (z0t d c) (by simp[oneV,c])];have:oneV k=.fin 1:=by simp[oneV,c]
 rw[this]
 rcases z5n d c with rfl|⟨x,rfl,g⟩
 ·exact z2v (by decide)
 rw[z1z,Rat.mul_one]
theorem x2z (k:Int) (v:V):z0d k v (zeroV k)=zeroV k:=by unfold z0d;rw[if_pos (.inr rfl)]
theorem y8u {k:Int} (c:k=1\/k=2\/k=3):z2b k=vtxt (zeroV k):=by
 have:z8i k=true:=by unfold z8i;rcases c with rfl|rfl|rfl<;>rfl
 unfold z2b;rw[this];rfl
theorem u1e {k:Int} (c:k=1\/k=2\/k=3):oneF k=vtxt (oneV k):=by
 have:z8i k=true:=by unfold z8i;rcases c with rfl|rfl|rfl<;>rfl
 unfold oneF;rw[this];rfl
structure Laws (k:Int) (a b c ab bc l m o r d x:ByteArray):Prop where
 p1:z1r k a b=(ab,0)
 p2:z1r k b a=(ab,0)
 p3:z1r k b c=(bc,0)
 p4:z1r k ab c=(l,0)
 p5:z1r k a bc=(l,0)
 t1:z0y k a b=(m,0)
 t2:z0y k b a=(m,0)
 t3:z0y k b c=(o,0)
 t4:z0y k m c=(r,0)
 t5:z0y k a o=(r,0)
 q1:z0y k a bc=(d,0)
 q2:z0y k a c=(x,0)
 q3:z1r k m x=(d,0)
 q4:z1r k a (z2b k)=(a,0)
 q5:z0y k a (oneF k)=(a,0)
 q6:z0y k a (z2b k)=(z2b k,0)
theorem y4q {k:Int} {v:V} (i:okV k v):okV k (z8j k v)/\z1t k (oneV k) (z0d k v (z8j k v))=z8j k v:=by
 rcases z4h i with rfl|rfl|rfl
 ·have j:oneV 1=.fin 0:=rfl;rw[j,z5m];have g:z8j 1 v=if 0<=cmpV v (.fin 0) then .fin 0 else .low:=rfl
  rw[g]
  split
  ·rename_i h;refine⟨.inl rfl,?_⟩;have e2:z0d 1 v (.fin 0)=v:=z9h (k:=1) i;rw[e2];have:=z7k v (.fin 0);exact z4c ((z7b _ _).1 (by omega))
  rename_i h;refine⟨rfl,?_⟩;have:z0d 1 v .low=.low:=by
   rw[times1];cases v with
   | inf=>simp[cmpV] at h
   | low=>rfl
   | fin q=>rfl
  rw[this];exact z4m trivial
 ·have c:(2:Int)≠1:=by decide
  have j:oneV 2=.fin 1:=rfl;rw[j,z7m]
  rcases z5n i c with rfl|⟨x,rfl,u⟩
  ·have g:z8j 2 .inf=.inf:=rfl;rw[g,times23 c (by simp) (by simp),z5k];exact⟨z7v (.inr (.inl rfl)),rfl⟩
  have g:z8j 2 (.fin x)=if 0<=cmpQ x 1 then .inf else .fin (1 / (1-x)):=rfl
  rw[g]
  split
  ·rename_i h;refine⟨z7v (.inr (.inl rfl)),?_⟩;have d:x≠0:=by intro e;subst e;exact absurd h (by decide +kernel)
   rw[times23 c (by simp) (by simp),z2q d];rfl
  rename_i h;have o:x<1:=by rcases z1c x 1 with ⟨p,e⟩|⟨p,e⟩|⟨p,e⟩<;>first|exact p|(rw[e] at h;exact absurd h (by decide))
  have r:0<1-x:=(Rat.lt_iff_sub_pos x 1).1 o;have l:1-x≠0:=Rat.ne_of_gt r;refine⟨.inr ⟨.inl rfl,?_⟩,?_⟩
  ·rw[Rat.div_def,Rat.one_mul];exact Rat.le_of_lt (Rat.inv_pos.2 r)
  rw[times23 c (by simp) (by simp),z1z];show V.fin (1+x*(1 / (1-x)))=V.fin (1 / (1-x))
  congr 1
  rw[Rat.div_def,Rat.one_mul];have hi:=Rat.mul_inv_cancel (1-x) l;have s:(1-x)*(1-x)⁻¹+x*(1-x)⁻¹=(1-x)⁻¹:=by
   rw[<- Rat.add_mul,Rat.sub_add_cancel,Rat.one_mul]
  rw[hi] at s;exact s
 have c:(3:Int)≠1:=by decide
 have j:oneV 3=.fin 1:=rfl;rw[j,y1v];have g:z8j 3 v=if cmpV v (.fin 1)<=0 then .fin 1 else .inf:=rfl
 rw[g]
 split
 ·rename_i h;refine⟨.inr ⟨.inr rfl,by decide⟩,?_⟩;have e2:z0d 3 v (.fin 1)=v:=z9h (k:=3) i;rw[e2];exact z4q ((z7b _ _).1 h)
 rename_i h;refine⟨z7v (.inr (.inr rfl)),?_⟩;rw[times23 c (z0t i c) (by simp)]
 rcases z5n i c with rfl|⟨x,rfl,u⟩
 ·rw[z5k];exact z5d trivial
 have d:x≠0:=by intro e;subst e;exact absurd h (by decide +kernel)
 rw[z2q d];exact z5d trivial
structure Order (k:Int) (a b c s x y:ByteArray) (p:Int):Prop where
 pe:z1a k a b=p
 lo:-1<=p
 hi:p<=1
 sw:z1a k b a=-p
 eq:p=0↔a=b
 tr:p<=0->z1a k b c<=0->z1a k a c<=0
 se:z1r k a b=(s,0)
 s1:k≠2->p<=0->s=a
 s2:k≠2->0<p->s=b
 xe:z0y k a c=(x,0)
 ye:z0y k b c=(y,0)
 xy:p<=0->z1a k x y<=0
theorem u3j {k:Int} {v:V} (h:wtV k v):∃ q,v=.fin q/\(k=1\/((k=2\/k=3)/\0<q)):=by cases v<;>first|exact h.elim|exact⟨_,rfl,h⟩
theorem u4h {k:Int} {v:V} (h:wtV k v):okV k v:=by
 obtain⟨q,rfl,h⟩:=u3j h
 rcases h with h|⟨h,c⟩
 ·exact .inl h
 exact .inr ⟨h,Rat.le_of_lt c⟩
theorem x2v {k:Int} {a:ByteArray} (h:z0r k a=true):∃ v,rdV a=some v/\wtV k v:=by
 unfold z0r at h;cases c:rdV a with
 | none=>rw[c] at h;simp at h
 | some v=>rw[c] at h;exact⟨v,rfl,of_decide_eq_true h⟩
theorem v8e {k:Int} (c:k=1\/k=2\/k=3):rdV (z2b k)=some (zeroV k):=by
 rw[y8u c];exact y9i ((x6w k (k:=1) (by omega)).fit (by omega))
end
section
class CSR (R:Type) where
 add:R->R->R
 mul:R->R->R
 zero:R
 one:R
 star:R->R
 add_comm:∀ a b,add a b=add b a
 add_assoc:∀ a b c,add (add a b) c=add a (add b c)
 add_zero:∀ a,add a zero=a
 mul_comm:∀ a b,mul a b=mul b a
 mul_assoc:∀ a b c,mul (mul a b) c=mul a (mul b c)
 mul_one:∀ a,mul a one=a
 mul_zero:∀ a,mul a zero=zero
 mul_add:∀ a b c,mul a (add b c)=add (mul a b) (mul a c)
 star_eq:∀ a,star a=add one (mul a (star a))
 park:∀ a b x c,x=add (add (mul a x) b) c->∃ d,x=add (mul (star a) b) d
 anti:∀ a b c d,b=add a c->a=add b d->a=b
namespace CSR
section
variable {R:Type} [CSR R]
instance instAdd:Add R:=⟨add⟩
instance instMul:Mul R:=⟨mul⟩
theorem aC (a b:R):a+b=b+a:=add_comm a b
theorem aA (a b c:R):a+b+c=a+(b+c):=add_assoc a b c
theorem a0 (a:R):a+zero=a:=add_zero a
theorem z0 (a:R):zero+a=a:=by rw[aC,a0]
theorem mA (a b c:R):a*b*c=a*(b*c):=mul_assoc a b c
theorem m1 (a:R):a*one=a:=mul_one a
theorem m0 (a:R):a*zero=zero:=mul_zero a
def le (a b:R):Prop:=∃ c,b=a+c
theorem le_refl (a:R):le a a:=⟨zero,(a0 a).symm⟩
theorem le_trans {a b c:R} (h:le a b) (k:le b c):le a c:=by
 obtain⟨x,rfl⟩:=h;obtain⟨y,rfl⟩:=k;exact⟨x+y,aA ..⟩
def sum (f:Nat->R):Nat->R
 | 0=>zero
 | n+1=>sum f n+f n
def elim (p:Nat) (M:Nat->Nat->R):Nat->Nat->R:=fun i j=>M i j+M i p*star (M p p)*M p j
def elims (M:Nat->Nat->R):Nat->Nat->Nat->R
 | 0=>M
 | p+1=>elim p (elims M p)
def eye (i j:Nat):R:=if i=j then one else zero
def starM (M:Nat->Nat->R) (n:Nat):Nat->Nat->R:=fun i j=>elims M n i j+eye i j
end
end CSR
end
section
def KK:Type:={ k:Int // k=1\/k=2\/k=3 }
def RK (k:KK):Type:={ v:V // okV k.1 v }
theorem x1t {k:Int} {u c:V} (d:okV k u) (i:okV k c):if k=1 then leV (z1t k u c) u else leV u (z1t k u c):=by
 rcases z4h d with rfl|rfl|rfl
 ·rw[if_pos rfl,z5m];unfold minV;split
  ·exact z5y _
  rcases z2w u c with h|h
  ·contradiction
  exact h
 ·rw[if_neg (by decide),z7m]
  rcases z5n d (by decide) with rfl|⟨x,rfl,j⟩
  ·exact trivial
  rcases z5n i (by decide) with rfl|⟨y,rfl,g⟩
  ·exact trivial
  show x<=x+y;have:=Rat.add_le_add_left (c:=x).2 g
  rwa [Rat.add_zero] at this
 rw[if_neg (by decide),y1v];unfold maxV;split
 ·exact z5y _
 rcases z2w u c with h|h
 ·exact h
 contradiction
theorem u4w {k:Int} {u v:V} (g:okV k u) (d:okV k v) (h:if k=1 then leV v u else leV u v):∃ c,okV k c/\v=z1t k u c:=by
 rcases z4h g with rfl|rfl|rfl
 ·rw[if_pos rfl] at h;exact⟨v,d,by rw[z5m,z4m h]⟩
 ·rw[if_neg (by decide)] at h
  rcases z5n g (by decide) with rfl|⟨x,rfl,j⟩
  ·refine⟨.inf,z7v (.inr (.inl rfl)),?_⟩
   rcases z5n d (by decide) with rfl|⟨y,rfl,i⟩
   ·rfl
   exact h.elim
  rcases z5n d (by decide) with rfl|⟨y,rfl,i⟩
  ·exact⟨.inf,z7v (.inr (.inl rfl)),by rw[z7m];rfl⟩
  refine⟨.fin (y-x),.inr ⟨.inl rfl,(Rat.le_iff_sub_nonneg x y).1 h⟩,?_⟩;rw[z7m];show V.fin y=V.fin (x+(y-x));congr 1;rw[Rat.add_comm,Rat.sub_add_cancel]
 rw[if_neg (by decide)] at h;exact⟨v,d,by rw[y1v,z5d h]⟩
theorem x4s {k:Int} {a x b c:V} (j:okV k a) (l:okV k x) (hb:okV k b) (g:okV k c) (h:x=z1t k (z1t k (z0d k a x) b) c) :
  (if k=1 then leV x (z0d k a x) else leV (z0d k a x) x)/\(if k=1 then leV x b else leV b x):=by
 have d:okV k (z0d k a x):=z6m j l;have i:=x1t d (z9f hb g);have bx:=x1t hb (z9f d g);have o:z1t k (z0d k a x) (z1t k b c)=x:=by rw[<- y0q hb,<- h]
 have e2:z1t k b (z1t k (z0d k a x) c)=x:=by rw[<- y0q d,y7p hb,<- h]
 rw[o] at i;rw[e2] at bx;exact⟨i,bx⟩
theorem y5e {k:Int} {v:V} (c:okV k v) (d:k=1\/k=2\/k=3):z0d k (oneV k) v=v:=by
 rw[y6g (v1u d) c];exact z9h c
theorem park1 {a x b:V} (v:okV 1 a) (z:okV 1 x) (hb:okV 1 b) (i:leV x (z0d 1 a x)) (g:leV x b):leV x (z0d 1 (z8j 1 a) b):=by
 have u:z8j 1 a=if 0<=cmpV a (.fin 0) then .fin 0 else .low:=rfl
 rw[u]
 split
 ·have:z0d 1 (.fin 0) b=b:=y5e (k:=1) hb (.inl rfl);rw[this];exact g
 rename_i o;have d:leV a (.fin 0):=(z7b _ _).1 (by omega);cases b with
 | inf=>cases x<;>trivial
 | low=>rw[times1];exact g
 | fin q =>
  rw[times1];cases x with
  | low=>trivial
  | inf=>exact g.elim
  | fin y =>
   exfalso
   rw[times1] at i;cases a with
   | inf=>exact d.elim
   | low=>exact i.elim
   | fin r =>
    have s:r<=0:=d;have h:r≠0:=by intro e;subst e;exact o (by decide +kernel)
    have l:y<=r+y:=i;have p:r<0:=Rat.lt_of_le_of_ne s h;have j:=Rat.add_lt_add_right (c:=y).2 p;rw[Rat.zero_add] at j;exact absurd l (Rat.not_le.2 j)
theorem park3 {a x b:V} (p:okV 3 a) (u:okV 3 x) (hb:okV 3 b) (i:leV (z0d 3 a x) x) (l:leV b x):leV (z0d 3 (z8j 3 a) b) x:=by
 have B:z8j 3 a=if cmpV a (.fin 1)<=0 then .fin 1 else .inf:=rfl
 have c:(3:Int)≠1:=by decide
 rw[B]
 split
 ·have:z0d 3 (.fin 1) b=b:=y5e (k:=3) hb (.inr (.inr rfl));rw[this];exact l
 rename_i C;rw[times23 c (by simp) (z0t hb c)];rw[times23 c (z0t p c) (z0t u c)] at i
 rcases z5n u c with rfl|⟨y,rfl,s⟩
 ·cases (mulV .inf b)<;>trivial
 rcases z5n hb c with rfl|⟨q,rfl,z⟩
 ·exact l.elim
 by_cases d:q=0
 ·subst d;rw[z2f];exact s
 exfalso
 have g:q<=y:=l;have j:0<q:=Rat.lt_of_le_of_ne z (fun e=>d e.symm);have h:0<y:=by
  refine Rat.lt_of_le_of_ne s (fun e=>?_);rw[<- e] at g;exact absurd g (Rat.not_le.2 j)
 have o:y≠0:=Rat.ne_of_gt h
 rcases z5n p c with rfl|⟨r,rfl,D⟩
 ·rw[z2v o] at i;exact i.elim
 rw[z1z] at i;have A:r*y<=1*y:=by rw[Rat.one_mul];exact i
 have v:r<=1:=Rat.le_of_mul_le_mul_right A h;exact C ((z7b _ _).2 v)
theorem park2 {a x b:V} (o:okV 2 a) (D:okV 2 x) (hb:okV 2 b) (h:leV (addV (z0d 2 a x) b) x):leV (z0d 2 (z8j 2 a) b) x:=by
 have n2:(2:Int)≠1:=by decide
 have u:okV 2 (z8j 2 a):=(y4q o).1;rw[times23 n2 (z0t u n2) (z0t hb n2)];rw[times23 n2 (z0t o n2) (z0t D n2)] at h
 rcases z5n D n2 with rfl|⟨y,rfl,C⟩
 ·cases (mulV (z8j 2 a) b)<;>trivial
 rcases z5n hb n2 with rfl|⟨s,rfl,B⟩
 ·have:addV (mulV a (.fin y)) .inf=.inf:=by cases (mulV a (.fin y))<;>rfl
  rw[this] at h;exact h.elim
 rcases z5n o n2 with rfl|⟨r,rfl,G⟩
 ·have e:z8j 2 .inf=.inf:=rfl;rw[e];by_cases j:y=0
  ·subst j;rw[z2f] at h;have k:(0:Rat)+s<=0:=h;rw[Rat.zero_add] at k;have:s=0:=Rat.le_antisymm k B;subst this;rw[z2f];exact Rat.le_refl
  rw[z2v j] at h;exact h.elim
 rw[z1z] at h;have k:r*y+s<=y:=h;have e:z8j 2 (.fin r)=if 0<=cmpQ r 1 then .inf else .fin (1 / (1-r)):=rfl
 rw[e]
 split
 ·rename_i i;have l:1<=r:=by
   rcases z1c r 1 with ⟨g,d⟩|⟨g,d⟩|⟨g,d⟩
   ·rw[d] at i;exact absurd i (by decide)
   ·rw[g];exact Rat.le_refl
   exact Rat.le_of_lt g
  have A:1*y<=r*y:=Rat.mul_le_mul_of_nonneg_right l C;rw[Rat.one_mul] at A;have E:r*y+s<=r*y+0:=by rw[Rat.add_zero];exact Rat.le_trans k A
  have F:s<=0:=Rat.add_le_add_left.1 E;have:s=0:=Rat.le_antisymm F B;subst this;rw[z2f];exact C
 rename_i i;have v:r<1:=by
  rcases z1c r 1 with ⟨g,d⟩|⟨g,d⟩|⟨g,d⟩
  ·exact g
  ·rw[d] at i;exact absurd (by decide) i
  rw[d] at i;exact absurd (by decide) i
 have z:0<1-r:=(Rat.lt_iff_sub_pos r 1).1 v;have p:1-r≠0:=Rat.ne_of_gt z;rw[z1z];show 1 / (1-r)*s<=y;refine Rat.le_of_mul_le_mul_left (c:=1-r) ?_ z;rw[<- Rat.mul_assoc,Rat.div_def,Rat.one_mul,Rat.mul_inv_cancel _ p,Rat.one_mul];rw[Rat.sub_eq_add_neg,Rat.add_mul,Rat.one_mul,Rat.neg_mul,<- Rat.sub_eq_add_neg];refine Rat.le_sub_iff.2 ?_;rw[Rat.add_comm];exact k
theorem v5r {k:Int} {a x b c:V} (g:okV k a) (i:okV k x) (hb:okV k b) (o:okV k c) (h:x=z1t k (z1t k (z0d k a x) b) c) :
  ∃ d,okV k d/\x=z1t k (z0d k (z8j k a) b) d:=by
 have p:=(y4q g).1;refine u4w (z6m p hb) i ?_
 rcases z4h g with rfl|rfl|rfl
 ·obtain⟨j,l⟩:=x4s g i hb o h;rw[if_pos rfl] at j l ⊢;exact park1 g i hb j l
 ·rw[if_neg (by decide)];have:=x1t (z9f (z6m g i) hb) o;rw[<- h,if_neg (by decide),z7m] at this;exact park2 g i hb this
 obtain⟨j,l⟩:=x4s g i hb o h;rw[if_neg (by decide)] at j l ⊢;exact park3 g i hb j l
theorem v7j {k:Int} {a b c d:V} (h:okV k a) (hb:okV k b) (j:okV k c) (i:okV k d) (l:b=z1t k a c) (o:a=z1t k b d):a=b:=by
 have x:=x1t h j;have y:=x1t hb i;rw[<- l] at x;rw[<- o] at y;by_cases g:k=1
 ·rw[if_pos g] at x y;exact z6u y x
 rw[if_neg g] at x y;exact z6u x y
namespace RK
variable {k:KK}
theorem ext {a b:RK k} (h:a.1=b.1):a=b:=Subtype.ext h
instance csr:CSR (RK k) where
 add a b:=⟨z1t k.1 a.1 b.1,z9f a.2 b.2⟩
 mul a b:=⟨z0d k.1 a.1 b.1,z6m a.2 b.2⟩
 zero:=⟨zeroV k.1,x6m k.2⟩
 one:=⟨oneV k.1,v1u k.2⟩
 star a:=⟨z8j k.1 a.1,(y4q a.2).1⟩
 add_comm a _:=ext (y7p a.2)
 add_assoc _ b _:=ext (y0q b.2)
 add_zero a:=ext (x8z a.2)
 mul_comm a b:=ext (y6g a.2 b.2)
 mul_assoc a b c:=ext (x1a a.2 b.2 c.2)
 mul_one a:=ext (z9h a.2)
 mul_zero a:=ext (x2z k.1 a.1)
 mul_add a b c:=ext (x2k a.2 b.2 c.2)
 star_eq a:=ext (y4q a.2).2.symm
 park a b x c h:=by
  obtain⟨d,hd,e⟩:=v5r a.2 x.2 b.2 c.2 (congrArg Subtype.val h);exact⟨⟨d,hd⟩,ext e⟩
 anti a b c d h1 h2:=ext (v7j a.2 b.2 c.2 d.2 (congrArg Subtype.val h1) (congrArg Subtype.val h2))
end RK
end
end Go.Proofs.YtjekapjbigfkbaaGreatDoor
