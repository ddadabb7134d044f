/- Parts of a proof: Str Com RatL ML C1. -/
import Derived.Lib.Hide
import Derived.Lib.ItoaNum
import Derived.Lib.ItoaLen
import Derived.Test.YteappjogmnogcaaGreatDoorProg
import Derived.WalkKit
import Derived.WalkSpells
import Derived.WalkLawsBesides
import Derived.Lib.Strings
namespace Go.Proofs.YteappjogmnogcaaGreatDoor
set_option maxRecDepth 100000
set_option linter.unusedSimpArgs false
set_option linter.unusedVariables false
set_option linter.unusedSectionVars false
set_option maxHeartbeats 16000000
open Go Tryz
theorem qh {p : Prop} (h : p) : RowKit.Hid p := h
theorem exq {α : Sort _} (e : α) : ∃ x, x = e := ⟨e, rfl⟩
theorem nlr {n : Nat} : n ≤ n := Nat.le_refl n
theorem blr {B : Nat} {w : World} : RowKit.Below B w w := RowKit.Below.refl B w
theorem nxa {P : Program} {f : FuncId} {ar : Array Value} {w : World} {R : Ending} {Q : Ending → World → Prop} (h : Calls P f ar w (fun e w' => e = R ∧ RowKit.Below w.heap.size w w')) (k : ∀ w', RowKit.Hid (RowKit.Below w.heap.size w w') → Q R w') : Calls P f ar w Q :=
  h.mono fun e w' he => by rw [he.1]; exact k w' he.2
theorem nxb {P : Program} {f : FuncId} {ar : Array Value} {w0 w : World} {R : Ending} {Q : Ending → World → Prop} (h : Calls P f ar w (fun e w' => e = R ∧ RowKit.Below w.heap.size w w')) (B : RowKit.Hid (RowKit.Below w0.heap.size w0 w)) (k : ∀ w', RowKit.Hid (RowKit.Below w0.heap.size w0 w') → Q R w') : Calls P f ar w Q :=
  h.mono fun e w' he => by rw [he.1]; exact k w' (RowKit.Below.trans B (he.2.mono (RowKit.Below.size B)))
section
def dgt (c:UInt8):Bool:=decide (48<=c.toNat)&&decide (c.toNat<=57)
def dgts (l:List UInt8):Bool:=l.all dgt
def z1s (l:List UInt8):Bool :=
 decide (1<=l.length)&&decide (l.length<=1000)&&(decide (l.length=1)||decide (l.headD 0≠48))&&dgts l
def bts (s:ByteArray):List UInt8:=s.data.toList
def str (l:List UInt8):ByteArray:=⟨l.toArray⟩
theorem z2q (l:List UInt8):bts (str l)=l:=by simp[bts,str]
theorem y2x (s:ByteArray):str (bts s)=s:=by simp[bts,str]
theorem z1g (l:List UInt8):(str l).size=l.length:=by simp[str,ByteArray.size]
theorem z1m (s:ByteArray):(bts s).length=s.size:=by simp[bts]
theorem y8c {s t:ByteArray} (h:bts s=bts t):s=t:=by rw[<- y2x s,h,y2x]
theorem u0e (s:ByteArray) (k:Nat) (h:k<s.size):(bts s)[k]'(by rw[z1m];exact h)=s[k]:=rfl
theorem x0x (s:ByteArray) (k:Nat) (h:k<s.size):(bts s).take (k+1)=(bts s).take k++[s[k]]:=by
 rw[List.take_succ_eq_append_getElem (by rw[z1m];exact h)];rfl
theorem v6i (s:ByteArray) (k:Nat) (h:k<s.size):(bts s).getD k 0=s[k]:=by
 rw[List.getD_eq_getElem?_getD,List.getElem?_eq_getElem (by rw[z1m];exact h)];rfl
theorem x0g (s:ByteArray) (h:0<s.size):(bts s).headD 0=s[0]:=by
 rw[<- v6i s 0 h];cases bts s<;>rfl
theorem z7h (l:List UInt8) (c:UInt8):dgts (l++[c])=(dgts l&&dgt c):=by simp[dgts,List.all_append]
theorem y6h (s:ByteArray) (k:Nat) (h:k<s.size) (c:dgt s[k]=false):dgts (bts s)=false:=by
 unfold dgts;rw[List.all_eq_false];refine⟨s[k],?_,by simp[c]⟩;have:=List.getElem_mem (l:=bts s) (n:=k) (by rw[z1m];exact h);exact this
theorem z4m {l:List UInt8} (h:z1s l=true):1<=l.length/\l.length<=1000/\(l.length=1\/l.headD 0≠48)/\dgts l=true:=by
 simp only[z1s,Bool.and_eq_true,Bool.or_eq_true,decide_eq_true_eq] at h;exact⟨h.1.1.1,h.1.1.2,h.1.2,h.2⟩
theorem x4w {l:List UInt8} (g:1<=l.length) (d:l.length<=1000) (h:l.length=1\/l.headD 0≠48) (c:dgts l=true):z1s l=true:=by
 simp only[z1s,Bool.and_eq_true,Bool.or_eq_true,decide_eq_true_eq];exact⟨⟨⟨g,d⟩,h⟩,c⟩
theorem v3b {l:List UInt8} (h:dgts l=true) (k:Nat) (c:k<l.length):48<=l[k].toNat/\l[k].toNat<=57:=by
 have:=List.all_eq_true.1 h l[k] (List.getElem_mem _)
 simpa [dgt] using this
def num (l:List UInt8):Nat:=l.foldl (fun n c=>10*n+(c.toNat-48)) 0
abbrev dec (n:Nat):List UInt8:=Lib.decDigits n
theorem z6b (l:List UInt8) (c:UInt8):num (l++[c])=10*num l+(c.toNat-48):=by simp[num,List.foldl_append]
theorem z2r {n:Nat} (h:n<10):dec n=[UInt8.ofNat (48+n)]:=Lib.decDigits_one h
theorem y1k {n:Nat} (h:¬ n<10):dec n=dec (n / 10)++[UInt8.ofNat (48+n % 10)]:=by
 unfold dec;rw[Lib.decDigits,dif_neg h]
theorem u8n {n:Nat} (h:n<256):(UInt8.ofNat n).toNat=n:=by simp[UInt8.toNat_ofNat'];omega
theorem u8d {n:Nat} (h:n<10):(UInt8.ofNat (48+n)).toNat-48=n:=by rw[u8n (by omega)];omega
theorem z9b (n:Nat):num (dec n)=n:=by
 induction n using Nat.strongRecOn with
 | ind n ih =>
  by_cases h:n<10
  ·rw[z2r h];simp only[num,List.foldl];rw[u8d h];omega
  rw[y1k h,z6b,ih (n / 10) (by omega),u8d (by omega)];omega
theorem z7k {m n:Nat} (h:dec m=dec n):m=n:=by rw[<- z9b m,h,z9b]
theorem y8d (n:Nat):1<=(dec n).length:=by unfold dec;rw[Lib.decDigits_length];exact Lib.nDigits_pos n
theorem y7u (n:Nat):dgts (dec n)=true:=by
 induction n using Nat.strongRecOn with
 | ind n ih =>
  by_cases h:n<10
  ·rw[z2r h];simp only[dgts,List.all_cons,List.all_nil,dgt];rw[u8n (by omega)];simp;omega
  rw[y1k h,z7h,ih (n / 10) (by omega)];simp only[dgt];rw[u8n (by omega)];simp;omega
theorem y1r {l r:List UInt8} (h:1<=l.length):(l++r).headD 0=l.headD 0:=by cases l with
 | nil=>simp at h
 | cons a l=>rfl
theorem v5x (n:Nat) (h:1<=n):(dec n).headD 0≠48:=by
 induction n using Nat.strongRecOn with
 | ind n ih =>
  by_cases c:n<10
  ·rw[z2r c];simp only[List.headD_cons];intro e;have:=congrArg UInt8.toNat e;rw[u8n (by omega)] at this;simp at this;omega
  rw[y1k c,y1r (y8d _)];exact ih (n / 10) (by omega) (by omega)
theorem y4v {n:Nat} (h:(dec n).length<=1000):z1s (dec n)=true:=by
 refine x4w (y8d n) h ?_ (y7u n);by_cases c:n=0
 ·left;subst c;rw[z2r (by omega)];rfl
 right;exact v5x n (by omega)
theorem y4h {α:Type} (l:List α) (h:l≠[]):∃ m c,l=m++[c]:=⟨l.dropLast,l.getLast h,(List.dropLast_concat_getLast h).symm⟩
theorem u4d {c:UInt8} {n:Nat} (h:c.toNat=n):UInt8.ofNat n=c:=by rw[<- h];exact UInt8.ofNat_toNat
theorem x2j:∀ (k:Nat) (l:List UInt8),l.length=k->1<=l.length->l.headD 0≠48->dgts l=true->1<=num l/\dec (num l)=l:=by
 intro k
 induction k with
 | zero=>intro l A C;omega
 | succ k ih =>
  intro l h _ d g;obtain⟨m,c,rfl⟩:=y4h l (by intro e;subst e;simp at h);rw[z7h] at g;simp only[Bool.and_eq_true,dgt,decide_eq_true_eq] at g;obtain⟨z,o,u⟩:=g;simp at h;by_cases i:m=[]
  ·subst i;have s:num ([]++[c])=c.toNat-48:=by simp[num]
   have B:c.toNat≠48:=by
    intro e;apply d;have:=UInt8.toNat_inj.1 (show c.toNat=(48:UInt8).toNat from e);simpa using this
   rw[s];refine⟨by omega,?_⟩;rw[z2r (by omega),u4d (c:=c) (by omega)];rfl
  have j:1<=m.length:=by cases m with
   | nil=>exact absurd rfl i
   | cons a l=>simp
  rw[y1r j] at d;obtain⟨i1,p⟩:=ih m h j d z;rw[z6b];refine⟨by omega,?_⟩;rw[y1k (by omega),show (10*num m+(c.toNat-48)) / 10=num m by omega,p,u4d (c:=c) (by omega)]
theorem z9p {l:List UInt8} (h:z1s l=true):dec (num l)=l:=by
 obtain⟨j,o,m,g⟩:=z4m h;by_cases d:l.headD 0≠48
 ·exact(x2j _ l rfl j d g).2
 have k:l.length=1:=by rcases m with h|h;exact h;exact absurd h d
 match l,k with
 | [c],_ =>
  have i:c=48:=by simpa using d
  subst i;have:num [48]=0:=rfl;rw[this,z2r (by omega)];rfl
theorem z3p {n k:Nat}:(dec n).length<=k↔(n<10 ^ k/\1<=k):=by
 unfold dec;rw[Lib.decDigits_length]
 constructor
 ·intro h;exact⟨Nat.lt_of_lt_of_le (Lib.lt_pow_nDigits n) (Nat.pow_le_pow_right (by omega) h),Nat.le_trans (Lib.nDigits_pos n) h⟩
 intro ⟨h,g⟩
 induction k generalizing n with
 | zero=>omega
 | succ k ih =>
  by_cases d:n<10
  ·rw[Lib.nDigits_small d];omega
  rw[Lib.nDigits_big d];by_cases c:k=0
  ·subst c;simp at h;omega
  have:=ih (n:=n / 10) (by rw[Nat.pow_succ] at h;omega) (by omega);omega
theorem v7h (l:List UInt8) (d:dgts l=true):num l<10 ^ l.length:=by
 suffices h:∀ (k:Nat) (l:List UInt8),l.length=k->dgts l=true->num l<10 ^ l.length from h _ l rfl d
 intro k
 induction k with
 | zero=>intro l h _;have:l=[]:=List.length_eq_zero_iff.1 h;subst this;simp[num]
 | succ k ih =>
  intro l g d;obtain⟨m,c,rfl⟩:=y4h l (by intro e;subst e;simp at g);rw[z7h] at d;simp only[Bool.and_eq_true,dgt,decide_eq_true_eq] at d;simp at g;have:=ih m g d.1;rw[z6b,List.length_append,List.length_singleton,Nat.pow_succ];omega
theorem u1p {l m:List UInt8} (d:z1s l=true) (c:z1s m=true) (h:num l=num m):l=m:=by
 rw[<- z9p d,h,z9p c]
end
section
open Go.RowKit
theorem z0v {a b:Bool} (h:a=b):Ending.returned (.bool a)=.returned (.bool b):=by rw[h]
theorem z5p {k:IntKind} {a b:Int} (h:a=b):Ending.returned (.int k a)=.returned (.int k b):=by rw[h]
theorem x9s {a b:ByteArray} (h:a=b):Ending.returned (.string a)=.returned (.string b):=by rw[h]
theorem v7d {k c:IntKind} {a b a' b':Int} (h:a=a') (d:b=b'):Ending.returned (.tuple #[.int k a,.int c b])=.returned (.tuple #[.int k a',.int c b']):=by rw[h,d]
theorem below_drewN {B:Nat} {a w:World} (h:Below B a w) (n:Nat):Below B a (w.drewN n):=h.trans ⟨rfl,rfl,rfl,nlr,fun _ _=>rfl⟩
def lenV (v:Value):Nat:=match v with | .slice _ n _=>n|_=>0
theorem y5s (a:Option Addr) (n c:Nat):lenV (.slice a n c)=n:=rfl
def strV (v:Value):Nat:=match v with | .string s=>s.size|_=>0
theorem x3a (s:ByteArray):strV (.string s)=s.size:=rfl
def nth (xs:List Nat) (i:Nat):Nat:=xs.getD i 0
theorem y0x (xs:List Nat) (i:Nat) (h:i<xs.length):nth xs i=xs[i]:=by simp[nth,List.getD_eq_getElem?_getD,h]
theorem z1q (xs:List Nat) (i:Nat) (h:xs.length<=i):nth xs i=0:=by simp[nth,List.getD_eq_getElem?_getD,h]
theorem z8b (xs:List Nat) (k i:Nat) (h:i<k):nth (xs.take k) i=nth xs i:=by simp[nth,List.getD_eq_getElem?_getD,h]
theorem y5t (xs:List Nat) (k:Nat) (h:k<xs.length):xs.take (k+1)=xs.take k++[nth xs k]:=by
 rw[List.take_succ_eq_append_getElem h,y0x xs k h]
def vals (k:IntKind) (xs:List Nat):List Value:=xs.map fun n:Nat=>Value.int k (n:Int)
theorem x3n (k:IntKind) (xs:List Nat):(vals k xs).length=xs.length:=by simp[vals]
theorem y5c (k:IntKind) (xs:List Nat) (n:Nat):vals k xs++[.int k (n:Int)]=vals k (xs++[n]):=by simp[vals]
theorem x9b (k:IntKind) (xs:List Nat) (n:Nat):(vals k xs).take n=vals k (xs.take n):=by simp[vals,List.map_take]
theorem x3j (k:IntKind) (xs:List Nat) (i:Nat) (h:i<xs.length):(vals k xs)[i]?=some (.int k ((nth xs i:Nat):Int)):=by
 rw[y0x xs i h];simp[vals,h]
def Sl (w:World) (k:IntKind) (v:Value) (xs:List Nat):Prop :=
 (v=.slice none 0 0/\xs=[])\/∃ b off cap,v=.slice (some ⟨b,off,none⟩) xs.length cap/\b<w.heap.size/\xs.length<=cap/\cap<=maxLen /\
  ∀ i,i<xs.length->w.cell? ⟨b,off+i,none⟩=some (.int k ((nth xs i:Nat):Int))
theorem Sl.open {w:World} {k:IntKind} {v:Value} {xs:List Nat} (h:Sl w k v xs):∃ a cap b off,v=.slice a xs.length cap/\(0<xs.length->a=some ⟨b,off,none⟩)/\xs.length<=cap/\cap<=maxLen /\
  (0<xs.length->b<w.heap.size)/\∀ i,i<xs.length->w.cell? ⟨b,off+i,none⟩=some (.int k ((nth xs i:Nat):Int)):=by
 rcases h with ⟨c,rfl⟩|⟨b,off,cap,c,g,j,l,d⟩
 ·exact⟨none,0,0,0,c,by simp,by simp,by simp,by simp,by simp⟩
 exact⟨_,cap,b,off,c,fun _=>rfl,j,l,fun _=>g,d⟩
theorem Sl.nil (w:World) (k:IntKind):Sl w k (.slice none 0 0) []:=.inl ⟨rfl,rfl⟩
theorem Sl.below {B:Nat} {w g:World} {k:IntKind} {v:Value} {xs:List Nat} (h:Sl w k v xs) (hb:Below B w g) (u:w.heap.size<=B):Sl g k v xs:=by
 rcases h with h|⟨b,c,d,o,l,m,s,j⟩
 ·exact .inl h
 exact .inr ⟨b,c,d,o,Nat.lt_of_lt_of_le l hb.size,m,s,fun i hi=>(hb.cell (p:=⟨b,c+i,none⟩) (by show b<B;omega)).trans (j i hi)⟩
theorem Sl.take {w:World} {k:IntKind} {a:Option Addr} {n cap m:Nat} {xs:List Nat} (h:Sl w k (.slice a n cap) xs) (j:m<=xs.length):Sl w k (.slice a m cap) (xs.take m):=by
 rcases h with ⟨d,rfl⟩|⟨b,g,c,d,o,s,p,l⟩
 ·simp at d j;subst j;obtain⟨rfl,rfl,rfl⟩:=d;exact .inl ⟨rfl,rfl⟩
 simp at d;obtain⟨rfl,rfl,rfl⟩:=d;refine .inr ⟨b,g,cap,by rw[List.length_take,Nat.min_eq_left j],o,by rw[List.length_take];omega,p,fun i hi=>?_⟩;rw[List.length_take] at hi;rw[z8b _ _ _ (by omega)];exact l i (by omega)
def Own (w:World) (B:Nat) (e:TypeId) (k:IntKind) (v:Value) (xs:List Nat):Prop:=w.ownsRow B e 1 v xs.length (vals k xs)
theorem Own.nil (w:World) (B:Nat) (e:TypeId) (k:IntKind):Own w B e k (.slice none 0 0) []:=World.ownsRow_nil w B e 1
theorem Own.sl {w:World} {B:Nat} {e:TypeId} {k:IntKind} {v:Value} {xs:List Nat} (h:Own w B e k v xs):Sl w k v xs:=by
 rcases h.2 with ⟨c,p⟩|⟨g,d,l,c,_,j,m,o,u,s⟩
 ·exact .inl ⟨c,List.length_eq_zero_iff.1 p⟩
 refine .inr ⟨g,0,d,c,(Array.getElem?_eq_some_iff.1 j).1,m,o,fun i hi=>?_⟩;subst c;rw[Nat.zero_add,World.ownsRow.cellAt h i (by omega),x3j k xs i hi]
theorem Own.kept {w l:World} {B:Nat} {e:TypeId} {k:IntKind} {v:Value} {xs:List Nat} {m:Nat} (h:Own w B e k v xs) (hb:Below m w l) (s:w.heap.size<=m):Own l B e k v xs:=by
 refine⟨h.1,?_⟩
 rcases h.2 with o|⟨g,j,i,rfl,p,c,d⟩
 ·exact .inl o
 have:=(Array.getElem?_eq_some_iff.1 c).1;exact .inr ⟨g,j,i,rfl,p,by rw[hb.block g (by omega)];exact c,d⟩
theorem Own.mono {w:World} {B j:Nat} {e:TypeId} {k:IntKind} {v:Value} {xs:List Nat} (h:Own w B e k v xs) (m:j<=B):Own w j e k v xs:=by
 refine⟨h.1,?_⟩
 rcases h.2 with l|⟨g,i,d,rfl,o,c⟩
 ·exact .inl l
 exact .inr ⟨g,i,d,rfl,by omega,c⟩
theorem Own.take {w:World} {B:Nat} {e:TypeId} {k:IntKind} {a:Option Addr} {n cap m:Nat} {xs:List Nat} (h:Own w B e k (.slice a n cap) xs) (A:m<=xs.length):Own w B e k (.slice a m cap) (xs.take m):=by
 have s:(xs.take m).length=m:=by rw[List.length_take];omega
 refine⟨by rw[x3n];omega,?_⟩;rw[s]
 rcases h.2 with ⟨d,l⟩|⟨g,c,i,d,l,j,z,p,u,o⟩
 ·simp at d;obtain⟨rfl,rfl,rfl⟩:=d;have:m=0:=by omega
  subst this;exact .inl ⟨rfl,rfl⟩
 simp only[Value.slice.injEq] at d;obtain⟨rfl,rfl,rfl⟩:=d;refine .inr ⟨g,cap,i,rfl,l,j,by omega,p,u,?_⟩;rw[<- x9b,<- o,List.take_take];congr 1;omega
theorem Own.appended {w wr c:World} {B:Nat} {e:TypeId} {k:IntKind} {v v':Value} {l:List Nat} {x:Nat} {o:Obj} (h:Own wr B e k v l) (hb:Below B w wr) (j:B<=wr.heap.size)
  (d:c.ownsRow B e 1 v' (l.length+1) (vals k l++[.int k (x:Int)])) (g:(wr.alloc o).grownBy c v.ownBlock):Own c B e k v' (l++[x])/\Below B w c:=by
 constructor
 ·unfold Own;rw[y5c] at d;rw[List.length_append];exact d
 exact(hb.alloc j o).grown g (by simp;omega) (fun q i=>(World.ownsRow.lt h q i).1)
theorem Own.raw {w:World} {B:Nat} {e:TypeId} {k:IntKind} {v:Value} {l:List Nat} (h:Own w B e k v l):w.ownsRow B e 1 v l.length (vals k l):=h
theorem one_cell (k:IntKind) (x:Int):∀ u ∈ [Value.int k x],u.oneCell'=true:=by intro u c;simp at c;subst c;rfl
theorem Own.shape {w:World} {B:Nat} {e:TypeId} {k:IntKind} {v:Value} {xs:List Nat} (h:Own w B e k v xs):∃ a cap,v=.slice a xs.length cap:=by
 rcases h.2 with ⟨c,d⟩|⟨g,cap,i,c,_⟩
 ·exact⟨none,0,by rw[c,d]⟩
 exact⟨_,cap,c⟩
theorem Sl.shape {w:World} {k:IntKind} {v:Value} {xs:List Nat} (h:Sl w k v xs):∃ a cap,v=.slice a xs.length cap:=by
 rcases h with ⟨c,d⟩|⟨b,g,cap,c,_⟩
 ·exact⟨none,0,by rw[c,d];rfl⟩
 exact⟨_,cap,c⟩
end
section
def z6f (l:List UInt8):Bool:=l.headD 0==45
def z0z (l:List UInt8):List UInt8:=if z6f l then l.tail else l
def hasS (l:List UInt8):Bool:=l.any (·==47)
def upTo (l:List UInt8):List UInt8:=l.takeWhile (· != 47)
def z6i (l:List UInt8):List UInt8:=(l.dropWhile (· != 47)).tail
def denL (l:List UInt8):List UInt8:=if hasS l then z6i l else [49]
def okP (neg:Bool) (n d:List UInt8) (frac:Bool):Bool :=
 z1s n&&z1s d&&decide (n.length<=400)&&decide (d.length<=400)&&!(neg&&(n==[48]))&&!(frac&&(d==[48]||d==[49]))&&decide (Nat.gcd (num n) (num d)=1)
def sg (neg:Bool) (m:Nat):Int:=if neg then -(m:Int) else (m:Int)
def prsL (l:List UInt8):Option Rat :=
 if okP (z6f l) (upTo (z0z l)) (denL (z0z l)) (hasS (z0z l)) then some (mkRat (sg (z6f l) (num (upTo (z0z l)))) (num (denL (z0z l)))) else none
def prs (s:ByteArray):Option Rat:=prsL (bts s)
def fitQ (q:Rat):Prop:=(dec q.num.natAbs).length<=400/\(dec q.den).length<=400
instance (q:Rat):Decidable (fitQ q):=inferInstanceAs (Decidable (_/\_))
def negQ (q:Rat):Bool:=decide (q.num<0)
def txtL (q:Rat):List UInt8:=(if negQ q then [45] else [])++(dec q.num.natAbs++(if q.den=1 then [] else 47::dec q.den))
def txt (q:Rat):ByteArray:=str (txtL q)
def limR (q:Rat):ByteArray × Nat:=if fitQ q then (txt q,0) else (str [],2)
theorem x7q (neg:Bool) (m:Nat):(sg neg m).natAbs=m:=by unfold sg;split<;>simp
theorem u0r {neg:Bool} {m:Nat}:sg neg m=0↔m=0:=by unfold sg;split<;>omega
theorem v7g {neg:Bool} {m:Nat}:sg neg m<0↔(neg=true/\m≠0):=by unfold sg;cases neg<;>simp<;>omega
theorem y0y (q:Rat):sg (negQ q) q.num.natAbs=q.num:=by unfold sg negQ;by_cases h:q.num<0<;>simp[h]<;>omega
theorem x7m {n:Int} {d:Nat} (c:d≠0) (h:Nat.gcd n.natAbs d=1):(mkRat n d).num=n/\(mkRat n d).den=d:=by
 have:=Rat.mk_eq_mkRat n d c h;rw[<- this];exact⟨rfl,rfl⟩
theorem z5d:dec 0=[48]:=by rw[z2r (by omega)];rfl
theorem z5k:dec 1=[49]:=by rw[z2r (by omega)];rfl
theorem x0m {neg:Bool} {n d:List UInt8} {c:Bool} (h:okP neg n d c=true) :
  z1s n=true/\z1s d=true/\n.length<=400/\d.length<=400/\(neg=true->n≠[48])/\(c=true->d≠[48]/\d≠[49])/\Nat.gcd (num n) (num d)=1:=by
 simp only[okP,Bool.and_eq_true,Bool.not_eq_true',decide_eq_true_eq] at h;obtain⟨⟨⟨⟨⟨⟨m,o⟩,p⟩,i⟩,l⟩,g⟩,k⟩:=h;refine⟨m,o,p,i,?_,?_,k⟩
 ·intro j e;subst j;subst e;simp at l
 intro hf;subst hf;simp at g;exact g
theorem u4g {neg:Bool} {n d:List UInt8} {c:Bool} (j:z1s n=true) (l:z1s d=true) (m:n.length<=400) (g:d.length<=400)
  (k:neg=true->n≠[48]) (i:c=true->d≠[48]/\d≠[49]) (h:Nat.gcd (num n) (num d)=1):okP neg n d c=true:=by
 simp only[okP,Bool.and_eq_true,Bool.not_eq_true',decide_eq_true_eq];refine⟨⟨⟨⟨⟨⟨j,l⟩,m⟩,g⟩,?_⟩,?_⟩,h⟩
 ·cases neg
  ·rfl
  have:=k rfl;simp[this]
 cases c
 ·rfl
 have:=i rfl;simp[this.1,this.2]
theorem y1w {l:List UInt8} (h:z1s l=true):num l=0↔l=[48]:=by
 constructor
 ·intro e;rw[<- z9p h,e,z5d]
 intro e;subst e;rfl
structure IsQ (q:Rat) (neg:Bool) (n d:List UInt8):Prop where
 sign:negQ q=neg
 top:dec q.num.natAbs=n
 bot:dec q.den=d
 topv:q.num.natAbs=num n
 botv:q.den=num d
 fit:fitQ q
theorem v9b {neg:Bool} {n d:List UInt8} {c:Bool} (h:okP neg n d c=true) (A:c=false->d=[49]):IsQ (mkRat (sg neg (num n)) (num d)) neg n d:=by
 obtain⟨l,p,D,s,z,C,u⟩:=x0m h;have B:num d≠0:=by
  intro e;have g:=(y1w p).1 e;cases hf:c
  ·have:=A hf;rw[this] at g;simp at g
  exact(C hf).1 g
 obtain⟨m,i⟩:=x7m (n:=sg neg (num n)) B (by rw[x7q];exact u);have j:(mkRat (sg neg (num n)) (num d)).num.natAbs=num n:=by rw[m,x7q]
 have o:dec (num n)=n:=z9p l;have k:dec (num d)=d:=z9p p;refine⟨?_,by rw[j,o],by rw[i,k],j,i,?_⟩
 ·unfold negQ;rw[m];cases neg
  ·simp[sg]
  have:num n≠0:=fun e=>z rfl ((y1w l).1 e);simp[sg];omega
 unfold fitQ;rw[j,i,o,k];exact⟨D,s⟩
theorem y9e {l:List UInt8} {q:Rat} (h:prsL l=some q):okP (z6f l) (upTo (z0z l)) (denL (z0z l)) (hasS (z0z l))=true/\IsQ q (z6f l) (upTo (z0z l)) (denL (z0z l)):=by
 unfold prsL at h
 split at h
 ·rename_i c;have d:=Option.some.inj h;refine⟨c,?_⟩;rw[<- d];exact v9b c (fun h=>by unfold denL;rw[h];rfl)
 exact absurd h (by simp)
theorem v6d (l:List UInt8):l=(if z6f l then [45] else [])++z0z l:=by
 unfold z0z
 split
 ·rename_i h;cases l with
  | nil=>simp[z6f] at h
  | cons a l=>simp[z6f] at h;simp[h]
 simp
theorem y5r (l:List UInt8) (h:hasS l=true):l=upTo l++47::z6i l:=by
 induction l with
 | nil=>simp[hasS] at h
 | cons a l ih =>
  by_cases c:a=47
  ·subst c;simp[upTo,z6i]
  have:hasS l=true:=by simpa [hasS,c] using h
  have i:=ih this;have g:upTo (a::l)=a::upTo l:=by simp[upTo,c]
  have d:z6i (a::l)=z6i l:=by simp[z6i,c]
  rw[g,d,List.cons_append,<- i]
theorem y6z (l:List UInt8) (h:hasS l=false):upTo l=l:=by
 induction l with
 | nil=>rfl
 | cons a l ih =>
  simp[hasS] at h;have c:upTo (a::l)=a::upTo l:=by simp[upTo,h.1]
  rw[c,ih (by simp[hasS];exact h.2)]
theorem x7v {l:List UInt8} (h:dgts l=true):∀ c ∈ l,c≠47/\c≠45:=by
 intro c d;have:=List.all_eq_true.1 h c d;simp[dgt] at this
 constructor
 ·intro e;subst e;simp at this
 intro e;subst e;simp at this
theorem v6p {n r:List UInt8} (h:∀ c ∈ n,c≠47):upTo (n++47::r)=n/\z6i (n++47::r)=r/\hasS (n++47::r)=true:=by
 induction n with
 | nil=>simp[upTo,z6i,hasS]
 | cons a n ih =>
  have d:=h a (by simp);obtain⟨i1,i,j⟩:=ih (fun c g=>h c (by simp[g]));refine⟨?_,?_,by simp[hasS]⟩
  ·rw[List.cons_append];show upTo (a::_)=_;have:upTo (a::(n++47::r))=a::upTo (n++47::r):=by simp[upTo,d]
   rw[this,i1]
  have:z6i (a::(n++47::r))=z6i (n++47::r):=by simp[z6i,d]
  rw[List.cons_append,this,i]
theorem noS {n:List UInt8} (h:∀ c ∈ n,c≠47):hasS n=false:=by
 simp[hasS];exact h
theorem v0a {q:Rat} (h:fitQ q):prsL (txtL q)=some q:=by
 obtain⟨d,F⟩:=h;have v1:z1s (dec q.num.natAbs)=true:=y4v (by omega);have z:z1s (dec q.den)=true:=y4v (by omega);have g:∀ c ∈ dec q.num.natAbs,c≠47:=fun c B=>(x7v (y7u _) c B).1;have E:∀ R:List UInt8,z6f ((if negQ q then [45] else [])++(dec q.num.natAbs++R))=negQ q/\z0z ((if negQ q then [45] else [])++(dec q.num.natAbs++R))=dec q.num.natAbs++R:=by
  intro R;have:z6f ((if negQ q then [45] else [])++(dec q.num.natAbs++R))=negQ q:=by
   cases i:negQ q
   ·have k:=y8d q.num.natAbs;have d:=y7u q.num.natAbs
    revert k d
    generalize dec q.num.natAbs=l;intro k d;cases l with
    | nil=>simp at k
    | cons a l=>have:=(x7v d a (by simp)).2;simp[z6f,this]
   simp[z6f]
  refine⟨this,?_⟩;unfold z0z;rw[this];cases negQ q<;>simp
 have j:denL (dec q.num.natAbs++(if q.den=1 then [] else 47::dec q.den))=dec q.den/\upTo (dec q.num.natAbs++(if q.den=1 then [] else 47::dec q.den))=dec q.num.natAbs /\
   hasS (dec q.num.natAbs++(if q.den=1 then [] else 47::dec q.den))=decide (q.den≠1):=by
  by_cases i:q.den=1
  ·rw[if_pos i,List.append_nil,i];have:=noS g;refine⟨by unfold denL;rw[this,z5k];rfl,y6z _ this,by rw[this];simp⟩
  rw[if_neg i];obtain⟨i1,p,m⟩:=v6p (r:=dec q.den) g;exact⟨by unfold denL;rw[m,p];rfl,i1,by rw[m];simp[i]⟩
 obtain⟨u,A⟩:=E (if q.den=1 then [] else 47::dec q.den)
 obtain⟨C,o,G⟩:=j;have D:okP (negQ q) (dec q.num.natAbs) (dec q.den) (decide (q.den≠1))=true:=by
  refine u4g v1 z d F ?_ ?_ ?_
  ·intro s e;have:q.num.natAbs=0:=z7k (e.trans z5d.symm);simp[negQ] at s;omega
  ·intro hf;simp at hf;refine⟨fun e=>?_,fun e=>hf ?_⟩
   ·exact q.den_nz (z7k (e.trans z5d.symm))
   exact z7k (e.trans z5k.symm)
  rw[z9b,z9b];exact q.reduced
 unfold prsL txtL;rw[u,A,C,o,G,if_pos D,z9b,z9b,y0y,Rat.mkRat_self]
theorem z2h {q:Rat} (h:fitQ q):prs (txt q)=some q:=by unfold prs txt;rw[z2q];exact v0a h
theorem v1k {l:List UInt8} {q:Rat} (h:prsL l=some q):l=txtL q/\fitQ q:=by
 obtain⟨m,c⟩:=y9e h;refine⟨?_,c.fit⟩;have e:=v6d l;have i:=x0m m;unfold txtL;rw[c.sign,c.top];have:z0z l=upTo (z0z l)++(if q.den=1 then [] else 47::dec q.den):=by
  cases d:hasS (z0z l)
  ·have g:denL (z0z l)=[49]:=by unfold denL;rw[d];rfl
   have:q.den=1:=z7k (c.bot.trans (g.trans z5k.symm));rw[if_pos this,List.append_nil,y6z _ d]
  have g:denL (z0z l)=z6i (z0z l):=by unfold denL;rw[d];rfl
  have:q.den≠1:=by
   intro k;have j:=c.bot;rw[k,z5k] at j;exact(i.2.2.2.2.2.1 d).2 j.symm
  rw[if_neg this,c.bot,g];exact y5r _ d
 rw[<- this];exact e
theorem z2p {s:ByteArray} {q:Rat} (h:prs s=some q):s=txt q/\fitQ q:=by
 obtain⟨d,c⟩:=v1k h;exact⟨by unfold txt;rw[<- d,y2x],c⟩
theorem u1c {p q:Rat} (c:fitQ p) (d:fitQ q) (h:txt p=txt q):p=q:=by
 have:=z2h c;rw[h,z2h d] at this;exact(Option.some.inj this).symm
def szQ (k:Nat) (q:Rat):Prop:=q.num.natAbs<10 ^ k/\q.den<10 ^ k
theorem x9y {q:Rat}:fitQ q↔szQ 400 q:=by
 unfold fitQ szQ;rw[z3p,z3p];omega
theorem szQ.mono {j k:Nat} {q:Rat} (h:szQ j q) (c:j<=k):szQ k q :=
 ⟨Nat.lt_of_lt_of_le h.1 (Nat.pow_le_pow_right (by omega) c),Nat.lt_of_lt_of_le h.2 (Nat.pow_le_pow_right (by omega) c)⟩
theorem y8j {n:Int} {d:Nat} (c:d≠0):(mkRat n d).num.natAbs<=n.natAbs/\(mkRat n d).den<=d:=by
 rw[Rat.num_mkRat,Rat.den_mkRat,if_neg c,if_neg c];exact⟨by rw[Int.natAbs_ediv_of_dvd];exact Nat.div_le_self _ _;exact Int.ofNat_dvd_left.2 (Nat.gcd_dvd_right _ _),Nat.div_le_self _ _⟩
theorem y6j {a b A B:Nat} (c:a<A) (d:b<B):a*b<A*B:=by
 rcases Nat.eq_zero_or_pos b with h|h
 ·subst h;rw[Nat.mul_zero];exact Nat.mul_pos (by omega) (by omega)
 exact Nat.lt_of_lt_of_le (Nat.mul_lt_mul_of_pos_right c h) (Nat.mul_le_mul_left _ (by omega))
theorem szQ.mul {j k:Nat} {p q:Rat} (c:szQ j p) (h:szQ k q):szQ (j+k) (p*q):=by
 rw[Rat.mul_def'];obtain⟨g,i⟩:=y8j (n:=p.num*q.num) (d:=p.den*q.den) (Nat.mul_ne_zero p.den_nz q.den_nz);rw[Int.natAbs_mul] at g
 constructor
 ·rw[Nat.pow_add];exact Nat.lt_of_le_of_lt g (y6j c.1 h.1)
 rw[Nat.pow_add];exact Nat.lt_of_le_of_lt i (y6j c.2 h.2)
theorem szQ.add {j k:Nat} {p q:Rat} (g:szQ j p) (c:szQ k q):szQ (j+k+1) (p+q):=by
 rw[Rat.add_def'];obtain⟨o,s⟩:=y8j (n:=p.num*q.den+q.num*p.den) (d:=p.den*q.den) (Nat.mul_ne_zero p.den_nz q.den_nz);have i:=Int.natAbs_add_le (p.num*q.den) (q.num*p.den);rw[Int.natAbs_mul,Int.natAbs_mul,Int.natAbs_natCast,Int.natAbs_natCast] at i;have l:=y6j g.1 c.2;have h:=y6j c.1 g.2;have m:=y6j g.2 c.2;rw[Nat.mul_comm (10 ^ k)] at h
 constructor
 ·rw[Nat.pow_succ,Nat.pow_add];omega
 rw[Nat.pow_succ,Nat.pow_add];omega
theorem szQ.neg {j:Nat} {p:Rat} (c:szQ j p):szQ j (-p):=by
 refine⟨?_,?_⟩
 ·rw[Rat.neg_num,Int.natAbs_neg];exact c.1
 rw[Rat.neg_den];exact c.2
theorem z2w {q:Rat} (h:fitQ q):(txt q).size<=802:=by
 unfold txt;rw[z1g];unfold txtL;obtain⟨d,c⟩:=h;simp only[List.length_append];have:(if negQ q then [45] else ([]:List UInt8)).length<=1:=by split<;>simp
 have:(if q.den=1 then [] else 47::dec q.den).length<=401:=by split<;>simp;omega
 omega
theorem x0u (q:Rat):(limR q).1.size<=802:=by
 unfold limR;split
 ·rename_i h;exact z2w h
 rw[z1g];simp
theorem z8p {q:Rat} (h:fitQ q):limR q=(txt q,0):=by unfold limR;rw[if_pos h]
theorem v1i {q:Rat} (h:¬ fitQ q):limR q=(str [],2):=by unfold limR;rw[if_neg h]
def y8w (a b:ByteArray):ByteArray × Nat:=match prs a,prs b with|some x,some y=>limR (x+y)|_,_=>(str [],1)
def x7u (a b:ByteArray):ByteArray × Nat:=match prs a,prs b with|some x,some y=>limR (x-y)|_,_=>(str [],1)
def y8q (a b:ByteArray):ByteArray × Nat:=match prs a,prs b with|some x,some y=>limR (x*y)|_,_=>(str [],1)
def y5f (a b:ByteArray):ByteArray × Nat:=match prs a,prs b with|some x,some y=>if y=0 then (str [],4) else limR (x / y)|_,_=>(str [],1)
def cmpQ (x y:Rat):Int:=if x<y then -1 else if x=y then 0 else 1
def y3h (a b:ByteArray):Int:=match prs a,prs b with|some x,some y=>cmpQ x y|_,_=>0
def sumF (p:Bool) (a:Nat) (q:Bool) (b:Nat):Bool × Nat:=if p=q then (p,a+b) else if a<b then (q,b-a) else (p,a-b)
theorem y8v (p:Bool) (a:Nat) (q:Bool) (b:Nat):sg (sumF p a q b).1 (sumF p a q b).2=sg p a+sg q b:=by
 unfold sumF sg;cases p<;>cases q<;>simp<;>(try split)<;>(try simp)<;>omega
theorem x8y (p:Bool) (a:Nat) (q:Bool) (b:Nat):(sumF p a q b).2<=a+b:=by
 unfold sumF;split
 ·exact nlr
 split<;>simp<;>omega
theorem v7u (p q:Bool) (m n:Nat):sg p m*sg q n=sg (p != q) (m*n):=by
 unfold sg;cases p<;>cases q<;>simp[Int.neg_mul,Int.mul_neg]
theorem u2z (p:Bool) (m n:Nat):sg p m*(n:Int)=sg p (m*n):=by
 unfold sg;cases p<;>simp[Int.neg_mul]
theorem v7j (p:Bool) (m:Nat):sg (!p) m=- sg p m:=by unfold sg;cases p<;>simp
theorem z8c (x:Rat) (d:Nat):x.num*(d:Int)=sg (negQ x) (x.num.natAbs*d):=by
 rw[<- u2z,y0y]
theorem u3a (x y:Rat):x+y=mkRat (sg (sumF (negQ x) (x.num.natAbs*y.den) (negQ y) (y.num.natAbs*x.den)).1 (sumF (negQ x) (x.num.natAbs*y.den) (negQ y) (y.num.natAbs*x.den)).2) (x.den*y.den):=by
 rw[y8v,<- z8c,<- z8c,Rat.add_def']
theorem u3r (x y:Rat):x-y=mkRat (sg (sumF (negQ x) (x.num.natAbs*y.den) (!negQ y) (y.num.natAbs*x.den)).1 (sumF (negQ x) (x.num.natAbs*y.den) (!negQ y) (y.num.natAbs*x.den)).2) (x.den*y.den):=by
 rw[y8v,v7j,<- z8c,<- z8c,Rat.sub_def',Int.sub_eq_add_neg]
theorem u3k (x y:Rat):x*y=mkRat (sg (negQ x != negQ y) (x.num.natAbs*y.num.natAbs)) (x.den*y.den):=by
 rw[<- v7u,y0y,y0y,Rat.mul_def']
theorem u3c (y:Rat):y⁻¹=mkRat (sg (negQ y) y.den) y.num.natAbs:=by
 rw[Rat.inv_def];have h:=y0y y;unfold sg at h ⊢;cases c:negQ y
 ·rw[c] at h;simp at h;rw[<- h,Rat.divInt_ofNat];simp
 rw[c] at h;simp only[if_true] at h;rw[<- h,Rat.divInt_neg',Rat.divInt_ofNat];simp
theorem u2n (x y:Rat):x / y=mkRat (sg (negQ x != negQ y) (x.num.natAbs*y.den)) (x.den*y.num.natAbs):=by
 rw[Rat.div_def,u3c,<- v7u,y0y]
 conv=>lhs;rw[<- Rat.mkRat_self x]
 rw[Rat.mkRat_mul_mkRat]
theorem u2m (x y:Rat):cmpQ x y=if (sumF (negQ x) (x.num.natAbs*y.den) (!negQ y) (y.num.natAbs*x.den)).2=0 then 0 else if (sumF (negQ x) (x.num.natAbs*y.den) (!negQ y) (y.num.natAbs*x.den)).1=true then -1 else 1:=by
 have h:=y8v (negQ x) (x.num.natAbs*y.den) (!negQ y) (y.num.natAbs*x.den);rw[v7j,<- z8c,<- z8c] at h;unfold cmpQ;have d:=Rat.lt_iff x y;have g:=Rat.eq_iff_mul_eq_mul (p:=x) (q:=y);generalize sumF (negQ x) (x.num.natAbs*y.den) (!negQ y) (y.num.natAbs*x.den)=r at h ⊢;obtain⟨s,k⟩:=r;simp only at h ⊢;by_cases c:k=0
 ·rw[if_pos c];have:sg s k=0:=u0r.2 c;rw[if_neg (by rw[d];omega),if_pos (by rw[g];omega)]
 rw[if_neg c];cases s
 ·have:0<sg false k:=by unfold sg;simp;omega
  rw[if_neg (by rw[d];omega),if_neg (by rw[g];omega)];rfl
 have:sg true k<0:=by unfold sg;simp;omega
 rw[if_pos (by rw[d];omega)];rfl
theorem x8m (z:Int) (d:Nat) (g:d≠0):(mkRat z d).num.natAbs=z.natAbs / Nat.gcd z.natAbs d/\(mkRat z d).den=d / Nat.gcd z.natAbs d/\negQ (mkRat z d)=decide (z<0):=by
 have c:=Rat.num_mkRat z d;have h:=Rat.den_mkRat z d;rw[if_neg g,Nat.gcd_comm] at c h;have i:(Nat.gcd z.natAbs d:Int) ∣ z:=Int.ofNat_dvd_left.2 (Nat.gcd_dvd_left _ _);have j:0<Nat.gcd z.natAbs d:=Nat.gcd_pos_of_pos_right _ (Nat.pos_of_ne_zero g);refine⟨?_,h,?_⟩
 ·rw[c,Int.natAbs_ediv_of_dvd i,Int.natAbs_natCast]
 unfold negQ;rw[c];have:z / (Nat.gcd z.natAbs d:Int)<0↔z<0:=by
  rw[Int.ediv_lt_iff_lt_mul (by omega)];simp
 rw[decide_eq_decide];exact this
end
section
inductive V where
 | inf|low|fin (q:Rat)
 deriving DecidableEq
def infS:ByteArray:=⟨#[105,110,102]⟩
def lowS:ByteArray:=⟨#[45,105,110,102]⟩
def okV (k:Int):V->Prop
 | .inf=>1<=k/\k<=3
 | .low=>k=1
 | .fin q=>k=1\/((k=2\/k=3)/\0<=q)
instance (k:Int) (v:V):Decidable (okV k v):=by cases v<;>unfold okV<;>infer_instance
def rdV (s:ByteArray):Option V:=if s=infS then some .inf else if s=lowS then some .low else (prs s).map .fin
def vprs (k:Int) (s:ByteArray):Option V:=(rdV s).filter fun v=>decide (okV k v)
def vtxt:V->ByteArray
 | .inf=>infS
 | .low=>lowS
 | .fin q=>txt q
def fitV:V->Prop
 | .fin q=>fitQ q
 | _=>True
def limV:V->ByteArray × Nat
 | .fin q=>limR q
 | v=>(vtxt v,0)
def cmpV:V->V->Int
 | .inf,.inf=>0
 | .low,.low=>0
 | .low,_=>-1
 | _,.inf=>-1
 | _,.low=>1
 | .inf,_=>1
 | .fin x,.fin y=>cmpQ x y
def zeroV (k:Int):V:=if k=1 then .inf else .fin 0
def oneV (k:Int):V:=if k=1 then .fin 0 else .fin 1
def addV:V->V->V
 | .fin x,.fin y=>.fin (x+y)
 | _,_=>.inf
def z1k (k:Int) (v w:V):V:=if k=2 then addV v w else if k=1 then (if 0<cmpV v w then w else v) else (if cmpV v w<0 then w else v)
def z0i (k:Int) (v w:V):V :=
 if v=zeroV k\/w=zeroV k then zeroV k else match v,w with
  | .inf,_=>.inf
  | _,.inf=>.inf
  | .low,_=>.low
  | _,.low=>.low
  | .fin x,.fin y=>if k=1 then .fin (x+y) else .fin (x*y)
def z1x (k:Int) (v:V):V :=
 if k=1 then (if 0<=cmpV v (.fin 0) then .fin 0 else .low)
 else if k=3 then (if cmpV v (.fin 1)<=0 then .fin 1 else .inf)
 else match v with
  | .fin x=>if 0<=cmpQ x 1 then .inf else .fin (1 / (1-x))
  | _=>.inf
def wtV (k:Int):V->Prop
 | .fin q=>k=1\/((k=2\/k=3)/\0<q)
 | _=>False
instance (k:Int) (v:V):Decidable (wtV k v):=by cases v<;>unfold wtV<;>infer_instance
def v9p (k:Int) (v w:V):Int:=if k=1 then cmpV v w else cmpV w v
def argS:ByteArray × Nat:=(str [],1)
def z0p (k:Int) (a:ByteArray):Bool:=(vprs k a).isSome
def z0t (k:Int) (a:ByteArray):Bool:=match rdV a with|some v=>decide (wtV k v)|none=>false
def z4e (k:Int):Bool:=decide (1<=k)&&decide (k<=3)
def z1d (k:Int):ByteArray:=if z4e k then vtxt (zeroV k) else str []
def oneF (k:Int):ByteArray:=if z4e k then vtxt (oneV k) else str []
def z1i (k:Int) (a b:ByteArray):ByteArray × Nat:=match vprs k a,vprs k b with|some v,some w=>limV (z1k k v w)|_,_=>argS
def z0n (k:Int) (a b:ByteArray):ByteArray × Nat:=match vprs k a,vprs k b with|some v,some w=>limV (z0i k v w)|_,_=>argS
def z5h (k:Int) (a:ByteArray):ByteArray × Nat:=match vprs k a with|some v=>limV (z1x k v)|none=>argS
def u3g (k:Int) (v w:V):Prop:=(v=zeroV k\/wtV k v)/\wtV k w
instance (k:Int) (v w:V):Decidable (u3g k v w):=inferInstanceAs (Decidable (_/\_))
def y4g (k:Int) (a b:ByteArray):Int:=match vprs k a,vprs k b with|some v,some w=>v9p k v w|_,_=>0
theorem y7g:prs infS=none:=by decide +kernel
theorem y3x:prs lowS=none:=by decide +kernel
theorem y8p {v:V} (h:fitV v):rdV (vtxt v)=some v:=by
 cases v with
 | inf=>simp[rdV,vtxt]
 | low=>simp[rdV,vtxt,show lowS≠infS by decide]
 | fin q =>
  have c:=z2h h;have d:txt q≠infS:=by intro e;rw[e,y7g] at c;simp at c
  have g:txt q≠lowS:=by intro e;rw[e,y3x] at c;simp at c
  simp[rdV,vtxt,d,g,c]
theorem y2f {s:ByteArray} {v:V} (h:rdV s=some v):s=vtxt v/\fitV v:=by
 unfold rdV at h
 split at h
 ·rename_i e;have:=Option.some.inj h;subst this;exact⟨e,trivial⟩
 split at h
 ·rename_i e;have:=Option.some.inj h;subst this;exact⟨e,trivial⟩
 cases c:prs s with
 | none=>rw[c] at h;simp at h
 | some q=>rw[c] at h;simp at h;subst h;exact z2p c
theorem z3b {k:Int} {s:ByteArray} {v:V}:vprs k s=some v↔rdV s=some v/\okV k v:=by
 unfold vprs;rw[Option.filter_eq_some_iff];simp
theorem x3z {v w:V} (c:fitV v) (d:fitV w) (h:vtxt v=vtxt w):v=w:=by
 have:=y8p c;rw[h,y8p d] at this;exact(Option.some.inj this).symm
theorem x4c {k:Int} {v:V} (h:fitV v) (c:okV k v):vprs k (vtxt v)=some v:=z3b.2 ⟨y8p h,c⟩
theorem y2i {v:V} (h:fitV v):limV v=(vtxt v,0):=by cases v<;>first|rfl|exact z8p h
def leV:V->V->Prop
 | .low,_=>True
 | _,.inf=>True
 | .fin x,.fin y=>x<=y
 | _,_=>False
theorem z1j (x y:Rat):(x<y/\cmpQ x y=-1)\/(x=y/\cmpQ x y=0)\/(y<x/\cmpQ x y=1):=by
 unfold cmpQ;by_cases c:x<y
 ·left;rw[if_pos c];exact⟨c,rfl⟩
 by_cases d:x=y
 ·right;left;rw[if_neg c,if_pos d];exact⟨d,rfl⟩
 right;right;rw[if_neg c,if_neg d]
 refine⟨?_,rfl⟩;exact Rat.lt_of_le_of_ne (Rat.not_lt.1 c) (Ne.symm d)
theorem z4x (v w:V):cmpV v w<=0↔leV v w:=by
 cases v<;>cases w<;>simp[cmpV,leV]
 rename_i x y
 rcases z1j x y with ⟨h,e⟩|⟨h,e⟩|⟨h,e⟩<;>rw[e]
 ·simp[Rat.le_of_lt h]
 ·subst h;simp
 simp;exact Rat.not_le.2 h
theorem z8q (v w:V):cmpV v w=-1\/cmpV v w=0\/cmpV v w=1:=by
 cases v<;>cases w<;>simp[cmpV]
 rename_i x y
 rcases z1j x y with ⟨h,e⟩|⟨h,e⟩|⟨h,e⟩<;>simp[e]
theorem y5b (v w:V):cmpV v w=0↔v=w:=by
 cases v<;>cases w<;>simp[cmpV]
 rename_i x y
 rcases z1j x y with ⟨h,e⟩|⟨h,e⟩|⟨h,e⟩<;>rw[e]
 ·simp;exact Rat.ne_of_lt h
 ·simp[h]
 simp;exact Rat.ne_of_gt h
theorem z9r (v w:V):cmpV w v=- cmpV v w:=by
 cases v<;>cases w<;>simp[cmpV]
 rename_i x y
 rcases z1j x y with ⟨h,e⟩|⟨h,e⟩|⟨h,e⟩<;>rcases z1j y x with ⟨c,d⟩|⟨c,d⟩|⟨c,d⟩<;>rw[e,d]<;>try rfl
 ·exact absurd (Rat.le_of_lt c) (Rat.not_le.2 h)
 ·subst c;exact absurd h Rat.lt_irrefl
 ·subst h;exact absurd c Rat.lt_irrefl
 ·subst h;exact absurd c Rat.lt_irrefl
 ·subst c;exact absurd h Rat.lt_irrefl
 exact absurd (Rat.le_of_lt c) (Rat.not_le.2 h)
theorem z8t (v:V):leV v v:=by rw[<- z4x,(y5b v v).2 rfl];omega
theorem z1z (v w:V):leV v w\/leV w v:=by rw[<- z4x,<- z4x,z9r v w];omega
theorem z4u {v w:V} (d:leV v w) (c:leV w v):v=w:=by
 rw[<- z4x] at d c;rw[z9r v w] at c;exact(y5b v w).1 (by omega)
theorem z1b {u v w:V} (d:leV u v) (c:leV v w):leV u w:=by
 cases u<;>cases v<;>cases w<;>simp_all [leV]
 exact Rat.le_trans d c
noncomputable def minV (v w:V):V:=open Classical in if leV v w then v else w
noncomputable def maxV (v w:V):V:=open Classical in if leV w v then v else w
theorem v9x (v w:V):(if 0<cmpV v w then w else v)=minV v w:=by
 unfold minV;have:=z4x v w;by_cases h:leV v w
 ·rw[if_pos h,if_neg];have:=this.2 h;omega
 rw[if_neg h,if_pos];have:¬ cmpV v w<=0:=fun c=>h (this.1 c);omega
theorem u0m (v w:V):(if cmpV v w<0 then w else v)=maxV v w:=by
 unfold maxV;have:=z4x w v;rw[z9r v w] at this;by_cases h:leV w v
 ·rw[if_pos h,if_neg];have:=this.2 h;omega
 rw[if_neg h,if_pos];have:¬ -cmpV v w<=0:=fun c=>h (this.1 c);omega
theorem z3z {v w:V} (h:leV v w):minV v w=v:=by unfold minV;rw[if_pos h]
theorem z3s {v w:V} (h:leV w v):minV v w=w:=by
 unfold minV;by_cases c:leV v w
 ·rw[if_pos c];exact z4u c h
 rw[if_neg c]
theorem z3n {v w:V} (h:leV v w):maxV v w=w:=by
 unfold maxV;by_cases c:leV w v
 ·rw[if_pos c];exact z4u h c ▸ rfl
 rw[if_neg c]
theorem z3k {v w:V} (h:leV w v):maxV v w=v:=by unfold maxV;rw[if_pos h]
theorem y8z (v w:V):minV v w=minV w v:=by
 rcases z1z v w with h|h
 ·rw[z3z h,z3s h]
 rw[z3s h,z3z h]
theorem y9n (v w:V):maxV v w=maxV w v:=by
 rcases z1z v w with h|h
 ·rw[z3n h,z3k h]
 rw[z3k h,z3n h]
theorem x6x (u v w:V):minV (minV u v) w=minV u (minV v w):=by
 rcases z1z u v with c|c<;>rcases z1z v w with d|d
 ·rw[z3z c,z3z d,z3z c,z3z (z1b c d)]
 ·rw[z3z c,z3s d]
 ·rw[z3s c,z3z d,z3s c]
 rw[z3s c,z3s d,z3s (z1b d c)]
theorem x5s (u v w:V):maxV (maxV u v) w=maxV u (maxV v w):=by
 rcases z1z u v with c|c<;>rcases z1z v w with d|d
 ·rw[z3n c,z3n d,z3n (z1b c d)]
 ·rw[z3n c,z3k d,z3n c]
 ·rw[z3k c,z3n d]
 rw[z3k c,z3k d,z3k c,z3k (z1b d c)]
theorem v6k {f:V->V} (v w:V) (hf:∀ x y,(x=v\/x=w)->(y=v\/y=w)->leV x y->leV (f x) (f y)):f (minV v w)=minV (f v) (f w):=by
 rcases z1z v w with h|h
 ·rw[z3z h,z3z (hf v w (.inl rfl) (.inr rfl) h)]
 rw[z3s h,z3s (hf w v (.inr rfl) (.inl rfl) h)]
theorem v5a {f:V->V} (v w:V) (hf:∀ x y,(x=v\/x=w)->(y=v\/y=w)->leV x y->leV (f x) (f y)):f (maxV v w)=maxV (f v) (f w):=by
 rcases z1z v w with h|h
 ·rw[z3n h,z3n (hf v w (.inl rfl) (.inr rfl) h)]
 rw[z3k h,z3k (hf w v (.inr rfl) (.inl rfl) h)]
theorem z7w (v w:V):z1k 1 v w=minV v w:=by unfold z1k;rw[if_neg (by decide),if_pos rfl,v9x]
theorem z5t (v w:V):z1k 2 v w=addV v w:=by unfold z1k;rw[if_pos rfl]
theorem z7i (v w:V):z1k 3 v w=maxV v w:=by unfold z1k;rw[if_neg (by decide),if_neg (by decide),u0m]
theorem z4b {k:Int} {v:V} (h:okV k v):k=1\/k=2\/k=3:=by
 cases v<;>simp only[okV] at h<;>omega
theorem z0q {k:Int} {v:V} (h:okV k v) (c:k≠1):v≠.low:=by
 intro e;subst e;exact c h
theorem z2e {k:Int} {v:V} (h:okV k v) (c:k≠1):v=.inf\/∃ q,v=.fin q/\0<=q:=by
 cases v with
 | inf=>exact .inl rfl
 | low=>exact absurd h c
 | fin q=>right;refine⟨q,rfl,?_⟩;simp only[okV] at h;rcases h with h|h;exact absurd h c;exact h.2
theorem okV23' {k:Int} (c:k=2\/k=3) {q:Rat} (h:0<=q):okV k (.fin q):=.inr ⟨c,h⟩
theorem times1 (v w:V):z0i 1 v w=match v,w with
  | .inf,_=>.inf
  | _,.inf=>.inf
  | .low,_=>.low
  | _,.low=>.low
  | .fin x,.fin y=>.fin (x+y):=by
 unfold z0i zeroV;cases v<;>cases w<;>simp
def mulV (v w:V):V :=
 if v=.fin 0\/w=.fin 0 then .fin 0 else match v,w with
  | .fin x,.fin y=>.fin (x*y)
  | _,_=>.inf
theorem times23 {k:Int} (c:k≠1) {v w:V} (g:v≠.low) (d:w≠.low):z0i k v w=mulV v w:=by
 unfold z0i mulV zeroV;rw[if_neg c];by_cases h:v=.fin 0\/w=.fin 0
 ·rw[if_pos h,if_pos h]
 rw[if_neg h,if_neg h];cases v<;>cases w<;>simp_all
theorem y4j (v w:V):z0i 1 v w=z0i 1 w v:=by
 rw[times1,times1];cases v<;>cases w<;>simp;exact Rat.add_comm ..
theorem y9t (u v w:V):z0i 1 (z0i 1 u v) w=z0i 1 u (z0i 1 v w):=by
 simp only[times1];cases u<;>cases v<;>cases w<;>simp;exact Rat.add_assoc ..
theorem z9k (u:V) {v w:V} (h:leV v w):leV (z0i 1 u v) (z0i 1 u w):=by
 simp only[times1];cases u<;>cases v<;>cases w<;>simp_all [leV]
 exact Rat.add_le_add_left.2 h
theorem v2c (v w:V):mulV v w=mulV w v:=by
 unfold mulV;by_cases h:v=V.fin 0\/w=V.fin 0
 ·rw[if_pos h,if_pos h.symm]
 rw[if_neg h,if_neg (fun e=>h e.symm)];cases v<;>cases w<;>simp;exact Rat.mul_comm ..
theorem z2a (v:V):mulV v (.fin 0)=.fin 0:=by unfold mulV;simp
theorem z2d (v:V):mulV (.fin 0) v=.fin 0:=by unfold mulV;simp
theorem z1f (x y:Rat):mulV (.fin x) (.fin y)=.fin (x*y):=by
 unfold mulV;split
 ·rename_i h
  rcases h with h|h<;>(injection h with h;subst h;simp)
 rfl
theorem z1v {y:Rat} (h:y≠0):mulV .inf (.fin y)=.inf:=by unfold mulV;simp[h]
theorem z1y {y:Rat} (h:y≠0):mulV (.fin y) .inf=.inf:=by unfold mulV;simp[h]
theorem z4d:mulV .inf .inf=.inf:=by unfold mulV;simp
theorem x5w {u v w:V} (l:u≠.low) (k:v≠.low) (i:w≠.low):mulV (mulV u v) w=mulV u (mulV v w):=by
 by_cases c:u=.fin 0
 ·subst c;simp only[z2d]
 by_cases d:v=.fin 0
 ·subst d;simp only[z2d,z2a]
 by_cases g:w=.fin 0
 ·subst g;simp only[z2a]
 have inj:∀ {x:Rat},V.fin x≠V.fin 0->x≠0:=fun h e=>h (by rw[e]);cases u with
 | low=>exact absurd rfl l
 | inf =>
  cases v with
  | low=>exact absurd rfl k
  | inf=>cases w with
   | low=>exact absurd rfl i
   | inf=>rfl
   | fin z=>rw[z4d,z1v (inj g),z4d]
  | fin y=>cases w with
   | low=>exact absurd rfl i
   | inf=>rw[z1v (inj d),z1y (inj d)]
   | fin z =>
    rw[z1v (inj d),z1v (inj g),z1f,z1v];intro e;rcases Rat.mul_eq_zero.1 e with e|e
    ·exact inj d e
    exact inj g e
 | fin x =>
  cases v with
  | low=>exact absurd rfl k
  | inf=>cases w with
   | low=>exact absurd rfl i
   | inf=>rw[z1y (inj c),z4d,z1y (inj c)]
   | fin z=>rw[z1y (inj c),z1v (inj g),z1y (inj c)]
  | fin y =>
   have j:x*y≠0:=by
    intro e;rcases Rat.mul_eq_zero.1 e with e|e
    ·exact inj c e
    exact inj d e
   cases w with
   | low=>exact absurd rfl i
   | inf=>rw[z1f,z1y j,z1y (inj d),z1y (inj c)]
   | fin z=>rw[z1f,z1f,z1f,z1f,Rat.mul_assoc]
theorem y4c {u v w:V} (l:u=.inf\/∃ q,u=.fin q/\0<=q) (i:v=.inf\/∃ q,v=.fin q/\0<=q) (j:w=.inf\/∃ q,w=.fin q/\0<=q) (h:leV v w):leV (mulV u v) (mulV u w):=by
 rcases l with rfl|⟨x,rfl,o⟩
 ·rcases j with rfl|⟨z,rfl,m⟩
  ·rw[z4d];cases mulV .inf v<;>simp[leV]
  rcases i with rfl|⟨y,rfl,k⟩
  ·exact h.elim
  by_cases g:y=0
  ·subst g;rw[z2a];by_cases c:z=0
   ·subst c;rw[z2a];exact z8t _
   rw[z1v c];trivial
  have c:z≠0:=by
   intro e;subst e;exact g (Rat.le_antisymm h k)
  rw[z1v g,z1v c];trivial
 by_cases d:x=0
 ·subst d;rw[z2d,z2d];exact z8t _
 rcases j with rfl|⟨z,rfl,m⟩
 ·rw[z1y d];cases mulV (.fin x) v<;>simp[leV]
 rcases i with rfl|⟨y,rfl,k⟩
 ·exact h.elim
 rw[z1f,z1f];exact Rat.mul_le_mul_of_nonneg_left h o
theorem x8x (v w:V):addV v w=addV w v:=by cases v<;>cases w<;>simp[addV];exact Rat.add_comm ..
theorem x6c (u v w:V):addV (addV u v) w=addV u (addV v w):=by cases u<;>cases v<;>cases w<;>simp[addV];exact Rat.add_assoc ..
theorem v1t {u v w:V} (h:u=.inf\/∃ q,u=.fin q/\0<=q) (k:v=.inf\/∃ q,v=.fin q/\0<=q) (l:w=.inf\/∃ q,w=.fin q/\0<=q) :
  mulV u (addV v w)=addV (mulV u v) (mulV u w):=by
 rcases k with rfl|⟨y,rfl,o⟩
 ·by_cases d:u=.fin 0
  ·subst d;rw[z2d,z2d,z2d];simp[addV,Rat.add_zero]
  have:mulV u .inf=.inf:=by
   rcases h with rfl|⟨x,rfl,_⟩
   ·exact z4d
   exact z1y (fun e=>d (by rw[e]))
  have i:addV .inf w=.inf:=by cases w<;>rfl
  rw[i,this];cases mulV u w<;>rfl
 rcases l with rfl|⟨z,rfl,j⟩
 ·by_cases d:u=.fin 0
  ·subst d;rw[z2d,z2d,z2d];simp[addV,Rat.add_zero]
  have:mulV u .inf=.inf:=by
   rcases h with rfl|⟨x,rfl,_⟩
   ·exact z4d
   exact z1y (fun e=>d (by rw[e]))
  have i:addV (.fin y) .inf=.inf:=rfl;rw[i,this];cases mulV u (.fin y)<;>rfl
 rcases h with rfl|⟨x,rfl,p⟩
 ·simp only[addV];by_cases c:y=0
  ·subst c;rw[z2a,Rat.zero_add];by_cases g:z=0
   ·subst g;rw[z2a];simp[Rat.add_zero]
   rw[z1v g]
  have:y+z≠0:=by
   intro e;have m:y<=0:=by
    have:y+0<=y+z:=Rat.add_le_add_left.2 j;rw[e,Rat.add_zero] at this;exact this
   exact c (Rat.le_antisymm m o)
  rw[z1v c,z1v this]
 simp only[addV];rw[z1f,z1f,z1f,Rat.mul_add]
end
section
def szV (k:Nat):V->Prop
 | .fin q=>szQ k q
 | _=>True
theorem szV.fit {k:Nat} {v:V} (h:szV k v) (c:k<=400):fitV v:=by
 cases v<;>first|trivial|exact x9y.2 (szQ.mono h c)
theorem x4t {k:Nat} (c:1<=k):szQ k 0:=by
 have:1<10 ^ k:=Nat.one_lt_pow (by omega) (by omega);exact⟨by show (0:Int).natAbs<_;simp;omega,by show 1<_;exact this⟩
theorem v9q {k:Nat} (c:1<=k):szQ k 1:=by
 have:1<10 ^ k:=Nat.one_lt_pow (by omega) (by omega);exact⟨by show (1:Int).natAbs<_;simpa using this,by show 1<_;exact this⟩
theorem v7a (c:Int) {k:Nat} (d:1<=k):szV k (zeroV c):=by unfold zeroV;split;trivial;exact x4t d
theorem v9e (d:Int) {k:Nat} (c:1<=k):szV k (oneV d):=by unfold oneV;split;exact x4t c;exact v9q c
theorem v6z {k:Int} (c:k=1\/k=2\/k=3):okV k (zeroV k):=by
 unfold zeroV;split
 ·rename_i h;subst h;exact⟨by omega,by omega⟩
 right;exact⟨by omega,Rat.le_refl⟩
theorem v1u {k:Int} (c:k=1\/k=2\/k=3):okV k (oneV k):=by
 unfold oneV;split
 ·rename_i h;exact .inl h
 right;exact⟨by omega,by decide⟩
theorem z6p {k:Int} (c:k=1\/k=2\/k=3):okV k .inf:=⟨by omega,by omega⟩
theorem y0m {k:Int} {v w:V} (d:okV k v) (g:okV k w):okV k (z1k k v w):=by
 have c:=z4b d;unfold z1k
 split
 ·rename_i j
  rcases z2e d (by omega) with rfl|⟨x,rfl,h⟩
  ·exact z6p c
  rcases z2e g (by omega) with rfl|⟨y,rfl,i⟩
  ·exact z6p c
  exact .inr ⟨by omega,Rat.add_nonneg h i⟩
 split<;>split<;>assumption
theorem z6h {k:Int} {v w:V} (d:okV k v) (g:okV k w):okV k (z0i k v w):=by
 have h:=z4b d;by_cases c:k=1
 ·subst c;rw[times1];cases v<;>cases w<;>simp[okV]
 rw[times23 c (z0q d c) (z0q g c)];unfold mulV
 split
 ·exact .inr ⟨by omega,Rat.le_refl⟩
 rcases z2e d c with rfl|⟨x,rfl,i⟩
 ·exact z6p h
 rcases z2e g c with rfl|⟨y,rfl,j⟩
 ·exact z6p h
 exact .inr ⟨by omega,Rat.mul_nonneg i j⟩
theorem y6p {k:Int} {v w:V} (c:okV k v):z1k k v w=z1k k w v:=by
 rcases z4b c with rfl|rfl|rfl
 ·rw[z7w,z7w,y8z]
 ·rw[z5t,z5t,x8x]
 rw[z7i,z7i,y9n]
theorem z9h {k:Int} {u v w:V} (c:okV k v):z1k k (z1k k u v) w=z1k k u (z1k k v w):=by
 rcases z4b c with rfl|rfl|rfl
 ·simp only[z7w];rw[x6x]
 ·simp only[z5t];rw[x6c]
 simp only[z7i];rw[x5s]
theorem y3z {k:Int} {v w:V} (g:okV k v) (d:okV k w):z0i k v w=z0i k w v:=by
 by_cases c:k=1
 ·subst c;exact y4j v w
 rw[times23 c (z0q g c) (z0q d c),times23 c (z0q d c) (z0q g c),v2c]
theorem x1b {k:Int} {u v w:V} (h:okV k u) (d:okV k v) (g:okV k w):z0i k (z0i k u v) w=z0i k u (z0i k v w):=by
 by_cases c:k=1
 ·subst c;exact y9t u v w
 rw[times23 c (z0q (z6h h d) c) (z0q g c),times23 c (z0q h c) (z0q (z6h d g) c),times23 c (z0q h c) (z0q d c),times23 c (z0q d c) (z0q g c)];exact x5w (z0q h c) (z0q d c) (z0q g c)
theorem x3g {k:Int} {u v w:V} (d:okV k u) (g:okV k v) (i:okV k w) (h:leV v w):leV (z0i k u v) (z0i k u w):=by
 by_cases c:k=1
 ·subst c;exact z9k u h
 rw[times23 c (z0q d c) (z0q g c),times23 c (z0q d c) (z0q i c)];exact y4c (z2e d c) (z2e g c) (z2e i c) h
theorem x1z {k:Int} {u v w:V} (d:okV k u) (i:okV k v) (g:okV k w):z0i k u (z1k k v w)=z1k k (z0i k u v) (z0i k u w):=by
 have j:∀ x y,(x=v\/x=w)->(y=v\/y=w)->leV x y->leV (z0i k u x) (z0i k u y):=by
  intro x y l m h;refine x3g d ?_ ?_ h
  ·rcases l with rfl|rfl<;>assumption
  rcases m with rfl|rfl<;>assumption
 rcases z4b d with rfl|rfl|rfl
 ·rw[z7w,z7w];exact v6k (f:=z0i 1 u) v w j
 ·have c:(2:Int)≠1:=by decide
  rw[times23 c (z0q d c) (z0q (y0m i g) c),times23 c (z0q d c) (z0q i c),times23 c (z0q d c) (z0q g c),z5t,z5t];exact v1t (z2e d c) (z2e i c) (z2e g c)
 rw[z7i,z7i];exact v5a (f:=z0i 3 u) v w j
theorem x5u {k:Int} {v:V} (c:okV k v):z1k k v (zeroV k)=v:=by
 rcases z4b c with rfl|rfl|rfl
 ·rw[z7w];exact z3z (by cases v<;>trivial)
 ·rw[z5t];show addV v (.fin 0)=v
  rcases z2e c (by decide) with rfl|⟨x,rfl,d⟩
  ·rfl
  simp[addV,Rat.add_zero]
 rw[z7i];show maxV v (.fin 0)=v
 rcases z2e c (by decide) with rfl|⟨x,rfl,d⟩
 ·exact z3k trivial
 exact z3k d
theorem z8r {k:Int} {v:V} (d:okV k v):z0i k v (oneV k)=v:=by
 by_cases c:k=1
 ·subst c;rw[times1];cases v<;>simp[oneV,Rat.add_zero]
 rw[times23 c (z0q d c) (by simp[oneV,c])];have:oneV k=.fin 1:=by simp[oneV,c]
 rw[this]
 rcases z2e d c with rfl|⟨x,rfl,g⟩
 ·exact z1v (by decide)
 rw[z1f,Rat.mul_one]
theorem x1j (k:Int) (v:V):z0i k v (zeroV k)=zeroV k:=by unfold z0i;rw[if_pos (.inr rfl)]
theorem v6h {k:Int} (c:k=1\/k=2\/k=3):z1d k=vtxt (zeroV k):=by
 have:z4e k=true:=by unfold z4e;rcases c with rfl|rfl|rfl<;>rfl
 unfold z1d;rw[this];rfl
theorem u1h {k:Int} (c:k=1\/k=2\/k=3):oneF k=vtxt (oneV k):=by
 have:z4e k=true:=by unfold z4e;rcases c with rfl|rfl|rfl<;>rfl
 unfold oneF;rw[this];rfl
theorem y6k {k:Int} {a:ByteArray} (h:z0p k a=true):∃ v,vprs k a=some v:=by
 unfold z0p at h;exact Option.isSome_iff_exists.1 h
structure Laws (k:Int) (a b c ab bc l m o r d x:ByteArray):Prop where
 p1:z1i k a b=(ab,0)
 p2:z1i k b a=(ab,0)
 p3:z1i k b c=(bc,0)
 p4:z1i k ab c=(l,0)
 p5:z1i k a bc=(l,0)
 t1:z0n k a b=(m,0)
 t2:z0n k b a=(m,0)
 t3:z0n k b c=(o,0)
 t4:z0n k m c=(r,0)
 t5:z0n k a o=(r,0)
 q1:z0n k a bc=(d,0)
 q2:z0n k a c=(x,0)
 q3:z1i k m x=(d,0)
 q4:z1i k a (z1d k)=(a,0)
 q5:z0n k a (oneF k)=(a,0)
 q6:z0n k a (z1d k)=(z1d k,0)
theorem y2g {k:Int} {v:V} (i:okV k v):okV k (z1x k v)/\z1k k (oneV k) (z0i k v (z1x k v))=z1x k v:=by
 rcases z4b i with rfl|rfl|rfl
 ·have j:oneV 1=.fin 0:=rfl;rw[j,z7w];have g:z1x 1 v=if 0<=cmpV v (.fin 0) then .fin 0 else .low:=rfl
  rw[g]
  split
  ·rename_i h;refine⟨.inl rfl,?_⟩;have o:z0i 1 v (.fin 0)=v:=z8r (k:=1) i;rw[o];have:=z9r v (.fin 0);exact z3z ((z4x _ _).1 (by omega))
  rename_i h;refine⟨rfl,?_⟩;have:z0i 1 v .low=.low:=by
   rw[times1];cases v with
   | inf=>simp[cmpV] at h
   | low=>rfl
   | fin q=>rfl
  rw[this];exact z3s trivial
 ·have c:(2:Int)≠1:=by decide
  have j:oneV 2=.fin 1:=rfl;rw[j,z5t]
  rcases z2e i c with rfl|⟨x,rfl,z⟩
  ·have g:z1x 2 .inf=.inf:=rfl;rw[g,times23 c (by simp) (by simp),z4d];exact⟨z6p (.inr (.inl rfl)),rfl⟩
  have g:z1x 2 (.fin x)=if 0<=cmpQ x 1 then .inf else .fin (1 / (1-x)):=rfl
  rw[g]
  split
  ·rename_i h;refine⟨z6p (.inr (.inl rfl)),?_⟩;have d:x≠0:=by intro e;subst e;exact absurd h (by decide +kernel)
   rw[times23 c (by simp) (by simp),z1y d];rfl
  rename_i h;have m:x<1:=by rcases z1j x 1 with ⟨p,e⟩|⟨p,e⟩|⟨p,e⟩<;>first|exact p|(rw[e] at h;exact absurd h (by decide))
  have s:0<1-x:=(Rat.lt_iff_sub_pos x 1).1 m;have l:1-x≠0:=Rat.ne_of_gt s;refine⟨.inr ⟨.inl rfl,?_⟩,?_⟩
  ·rw[Rat.div_def,Rat.one_mul];exact Rat.le_of_lt (Rat.inv_pos.2 s)
  rw[times23 c (by simp) (by simp),z1f];show V.fin (1+x*(1 / (1-x)))=V.fin (1 / (1-x))
  congr 1
  rw[Rat.div_def,Rat.one_mul];have hi:=Rat.mul_inv_cancel (1-x) l;have u:(1-x)*(1-x)⁻¹+x*(1-x)⁻¹=(1-x)⁻¹:=by
   rw[<- Rat.add_mul,Rat.sub_add_cancel,Rat.one_mul]
  rw[hi] at u;exact u
 have c:(3:Int)≠1:=by decide
 have j:oneV 3=.fin 1:=rfl;rw[j,z7i];have g:z1x 3 v=if cmpV v (.fin 1)<=0 then .fin 1 else .inf:=rfl
 rw[g]
 split
 ·rename_i h;refine⟨.inr ⟨.inr rfl,by decide⟩,?_⟩;have o:z0i 3 v (.fin 1)=v:=z8r (k:=3) i;rw[o];exact z3k ((z4x _ _).1 h)
 rename_i h;refine⟨z6p (.inr (.inr rfl)),?_⟩;rw[times23 c (z0q i c) (by simp)]
 rcases z2e i c with rfl|⟨x,rfl,z⟩
 ·rw[z4d];exact z3n trivial
 have d:x≠0:=by intro e;subst e;exact absurd h (by decide +kernel)
 rw[z1y d];exact z3n trivial
structure Order (k:Int) (a b c s x y:ByteArray) (p:Int):Prop where
 pe:y4g k a b=p
 lo:-1<=p
 hi:p<=1
 sw:y4g k b a=-p
 eq:p=0↔a=b
 tr:p<=0->y4g k b c<=0->y4g k a c<=0
 se:z1i k a b=(s,0)
 s1:k≠2->p<=0->s=a
 s2:k≠2->0<p->s=b
 xe:z0n k a c=(x,0)
 ye:z0n k b c=(y,0)
 xy:p<=0->y4g k x y<=0
theorem v8j {k:Int} {v:V} (h:wtV k v):∃ q,v=.fin q/\(k=1\/((k=2\/k=3)/\0<q)):=by cases v<;>first|exact h.elim|exact⟨_,rfl,h⟩
theorem u4c {k:Int} {v:V} (h:wtV k v):okV k v:=by
 obtain⟨q,rfl,h⟩:=v8j h
 rcases h with h|⟨h,c⟩
 ·exact .inl h
 exact .inr ⟨h,Rat.le_of_lt c⟩
theorem x1v {k:Int} {a:ByteArray} (h:z0t k a=true):∃ v,rdV a=some v/\wtV k v:=by
 unfold z0t at h;cases c:rdV a with
 | none=>rw[c] at h;simp at h
 | some v=>rw[c] at h;exact⟨v,rfl,of_decide_eq_true h⟩
end
section
class CSR (R:Type) where
 add:R->R->R
 mul:R->R->R
 zero:R
 one:R
 star:R->R
 add_comm:∀ a b,add a b=add b a
 add_assoc:∀ a b c,add (add a b) c=add a (add b c)
 add_zero:∀ a,add a zero=a
 mul_comm:∀ a b,mul a b=mul b a
 mul_assoc:∀ a b c,mul (mul a b) c=mul a (mul b c)
 mul_one:∀ a,mul a one=a
 mul_zero:∀ a,mul a zero=zero
 mul_add:∀ a b c,mul a (add b c)=add (mul a b) (mul a c)
 star_eq:∀ a,star a=add one (mul a (star a))
 park:∀ a b x c,x=add (add (mul a x) b) c->∃ d,x=add (mul (star a) b) d
 anti:∀ a b c d,b=add a c->a=add b d->a=b
namespace CSR
section
variable {R:Type} [CSR R]
instance instAdd:Add R:=⟨add⟩
instance instMul:Mul R:=⟨mul⟩
theorem aC (a b:R):a+b=b+a:=add_comm a b
theorem aA (a b c:R):a+b+c=a+(b+c):=add_assoc a b c
theorem aL (a b c:R):a+(b+c)=b+(a+c):=by rw[<- aA,aC a b,aA]
theorem a0 (a:R):a+zero=a:=add_zero a
theorem z0 (a:R):zero+a=a:=by rw[aC,a0]
theorem mC (a b:R):a*b=b*a:=mul_comm a b
theorem mA (a b c:R):a*b*c=a*(b*c):=mul_assoc a b c
theorem m1 (a:R):a*one=a:=mul_one a
theorem o1 (a:R):one*a=a:=by rw[mC,m1]
theorem m0 (a:R):a*zero=zero:=mul_zero a
theorem zm (a:R):zero*a=zero:=by rw[mC,m0]
theorem mD (a b c:R):a*(b+c)=a*b+a*c:=mul_add a b c
theorem dM (a b c:R):(a+b)*c=a*c+b*c:=by rw[mC,mD,mC c a,mC c b]
theorem sE (a:R):star a=one+a*star a:=star_eq a
def le (a b:R):Prop:=∃ c,b=a+c
theorem le_refl (a:R):le a a:=⟨zero,(a0 a).symm⟩
theorem le_add (a b:R):le a (a+b):=⟨b,rfl⟩
theorem le_trans {a b c:R} (h:le a b) (k:le b c):le a c:=by
 obtain⟨x,rfl⟩:=h;obtain⟨y,rfl⟩:=k;exact⟨x+y,aA ..⟩
theorem le_plus {a b c d:R} (h:le a b) (k:le c d):le (a+c) (b+d):=by
 obtain⟨x,rfl⟩:=h;obtain⟨y,rfl⟩:=k;exact⟨x+y,by rw[aA,aA,aL x c y]⟩
theorem le_times {a b:R} (c:R) (h:le a b):le (c*a) (c*b):=by
 obtain⟨x,rfl⟩:=h;exact⟨c*x,mD ..⟩
theorem le_anti {a b:R} (h:le a b) (k:le b a):a=b:=by
 obtain⟨x,c⟩:=h;obtain⟨y,d⟩:=k;exact anti a b x y c d
def sum (f:Nat->R):Nat->R
 | 0=>zero
 | n+1=>sum f n+f n
theorem sum_congr {f g:Nat->R} {n:Nat} (h:∀ i,i<n->f i=g i):sum f n=sum g n:=by
 induction n with
 | zero=>rfl
 | succ n ih=>simp only[sum];rw[ih (fun i hi=>h i (by omega)),h n (by omega)]
theorem sum_zero (n:Nat):sum (fun _=>(zero:R)) n=zero:=by
 induction n with
 | zero=>rfl
 | succ n ih=>simp only[sum];rw[ih,a0]
theorem sum_add (f g:Nat->R) (n:Nat):sum (fun i=>f i+g i) n=sum f n+sum g n:=by
 induction n with
 | zero=>exact(a0 _).symm
 | succ n ih=>simp only[sum];rw[ih,aA,aA,aL (sum g n)]
theorem mul_sum (a:R) (f:Nat->R) (n:Nat):a*sum f n=sum (fun i=>a*f i) n:=by
 induction n with
 | zero=>exact m0 a
 | succ n ih=>simp only[sum];rw[mD,ih]
theorem sum_mul (a:R) (f:Nat->R) (n:Nat):sum f n*a=sum (fun i=>f i*a) n:=by
 rw[mC,mul_sum];exact sum_congr fun i _=>mC _ _
theorem sum_pick (f:Nat->R) {n p:Nat} (c:p<n):sum f n=f p+sum (fun i=>if i=p then zero else f i) n:=by
 induction n with
 | zero=>omega
 | succ n ih =>
  simp only[sum];by_cases e:p=n
  ·subst e;rw[if_pos rfl,a0,sum_congr (g:=fun i=>if i=p then zero else f i) (fun i hi=>by rw[if_neg (by omega)]),aC]
  rw[if_neg (by omega),ih (by omega),aA]
theorem sum_single (f:Nat->R) {n p:Nat} (c:p<n) (h:∀ i,i<n->i≠p->f i=zero):sum f n=f p:=by
 rw[sum_pick f c,sum_congr (g:=fun _=>zero) (fun i hi=>by split;rfl;exact h i hi (by assumption)),sum_zero,a0]
theorem sum_le {f g:Nat->R} {n:Nat} (h:∀ i,i<n->le (f i) (g i)):le (sum f n) (sum g n):=by
 induction n with
 | zero=>exact le_refl _
 | succ n ih=>exact le_plus (ih fun i hi=>h i (by omega)) (h n (by omega))
def elim (p:Nat) (M:Nat->Nat->R):Nat->Nat->R:=fun i j=>M i j+M i p*star (M p p)*M p j
def elims (M:Nat->Nat->R):Nat->Nat->Nat->R
 | 0=>M
 | p+1=>elim p (elims M p)
def eye (i j:Nat):R:=if i=j then one else zero
def starM (M:Nat->Nat->R) (n:Nat):Nat->Nat->R:=fun i j=>elims M n i j+eye i j
theorem elims_first (M:Nat->Nat->R) (p i j:Nat):elims M p i j=M i j+sum (fun k=>M i k*elims M p k j) p:=by
 induction p generalizing j with
 | zero=>exact(a0 _).symm
 | succ p ih =>
  have c:=ih;generalize hNN:elims M p=N at c;have g:elims M (p+1)=elim p N:=by rw[<- hNN];rfl
  rw[g];simp only[sum];have d:sum (fun k=>M i k*elim p N k j) p=sum (fun k=>M i k*N k j) p+sum (fun k=>M i k*N k p) p*(star (N p p)*N p j):=by
   rw[sum_mul,<- sum_add];refine sum_congr fun k _=>?_;show M i k*(N k j+N k p*star (N p p)*N p j)=_;rw[mD,mA,mA]
  have h:M i p*elim p N p j=M i p*(star (N p p)*N p j):=by
   show M i p*(N p j+N p p*star (N p p)*N p j)=_
   congr 1
   conv=>rhs;rw[sE (N p p)]
   rw[dM,o1]
  rw[d,h];show N i j+N i p*star (N p p)*N p j=_;rw[aA,<- dM,<- aA,aC (sum _ _) (M i p),<- c j,<- c p,mA]
theorem starM_left (M:Nat->Nat->R) {n i j:Nat} (d:j<n):starM M n i j=eye i j+sum (fun k=>M i k*starM M n k j) n:=by
 have h:sum (fun k=>M i k*starM M n k j) n=sum (fun k=>M i k*elims M n k j) n+M i j:=by
  show sum (fun k=>M i k*(elims M n k j+eye k j)) n=_;rw[sum_congr (g:=fun k=>M i k*elims M n k j+M i k*eye k j) (fun k _=>mD ..),sum_add]
  congr 1
  rw[sum_single _ d (fun k _ c=>by show M i k*eye k j=_;rw[eye,if_neg c,m0])];show M i j*eye j j=_;rw[eye,if_pos rfl,m1]
 rw[h,aC (sum _ _),<- elims_first,aC];rfl
theorem elims_congr {M M':Nat->Nat->R} {n:Nat} (h:∀ i j,i<n->j<n->M i j=M' i j) {p:Nat} (d:p<=n):∀ i j,i<n->j<n->elims M p i j=elims M' p i j:=by
 induction p with
 | zero=>exact h
 | succ p ih =>
  intro i j hi c;show elim p _ i j=elim p _ i j;unfold elim;rw[ih (by omega) i j hi c,ih (by omega) i p hi (by omega),ih (by omega) p p (by omega) (by omega),ih (by omega) p j (by omega) c]
theorem starM_congr {M M':Nat->Nat->R} {n:Nat} (h:∀ i j,i<n->j<n->M i j=M' i j):∀ i j,i<n->j<n->starM M n i j=starM M' n i j:=by
 intro i j hi c;unfold starM;rw[elims_congr h (Nat.le_refl n) i j hi c]
def sumFrom (f:Nat->R) (p n:Nat):R:=sum (fun k=>if k<p then zero else f k) n
theorem sumFrom_zero (f:Nat->R) (n:Nat):sumFrom f 0 n=sum f n:=sum_congr fun k _=>by rw[if_neg (by omega)]
theorem sumFrom_end (f:Nat->R) (n:Nat):sumFrom f n n=zero:=by
 rw[sumFrom,sum_congr (g:=fun _=>zero) (fun k c=>by rw[if_pos c]),sum_zero]
theorem sumFrom_step (f:Nat->R) {p n:Nat} (g:p<n):sumFrom f p n=f p+sumFrom f (p+1) n:=by
 unfold sumFrom;rw[sum_pick _ g,if_neg (by omega)]
 congr 1
 exact sum_congr fun k _=>by
  by_cases d:k=p
  ·rw[if_pos d,if_pos (by omega)]
  rw[if_neg d];by_cases c:k<p
  ·rw[if_pos c,if_pos (by omega)]
  rw[if_neg c,if_neg (by omega)]
end
end CSR
end
section
def KK:Type:={ k:Int // k=1\/k=2\/k=3 }
def RK (k:KK):Type:={ v:V // okV k.1 v }
theorem y6q {k:Int} {u c:V} (d:okV k u) (g:okV k c):if k=1 then leV (z1k k u c) u else leV u (z1k k u c):=by
 rcases z4b d with rfl|rfl|rfl
 ·rw[if_pos rfl,z7w];unfold minV;split
  ·exact z8t _
  rcases z1z u c with h|h
  ·contradiction
  exact h
 ·rw[if_neg (by decide),z5t]
  rcases z2e d (by decide) with rfl|⟨x,rfl,j⟩
  ·exact trivial
  rcases z2e g (by decide) with rfl|⟨y,rfl,i⟩
  ·exact trivial
  show x<=x+y;have:=Rat.add_le_add_left (c:=x).2 i
  rwa [Rat.add_zero] at this
 rw[if_neg (by decide),z7i];unfold maxV;split
 ·exact z8t _
 rcases z1z u c with h|h
 ·exact h
 contradiction
theorem v8b {k:Int} {u v:V} (g:okV k u) (d:okV k v) (h:if k=1 then leV v u else leV u v):∃ c,okV k c/\v=z1k k u c:=by
 rcases z4b g with rfl|rfl|rfl
 ·rw[if_pos rfl] at h;exact⟨v,d,by rw[z7w,z3s h]⟩
 ·rw[if_neg (by decide)] at h
  rcases z2e g (by decide) with rfl|⟨x,rfl,j⟩
  ·refine⟨.inf,z6p (.inr (.inl rfl)),?_⟩
   rcases z2e d (by decide) with rfl|⟨y,rfl,i⟩
   ·rfl
   exact h.elim
  rcases z2e d (by decide) with rfl|⟨y,rfl,i⟩
  ·exact⟨.inf,z6p (.inr (.inl rfl)),by rw[z5t];rfl⟩
  refine⟨.fin (y-x),.inr ⟨.inl rfl,(Rat.le_iff_sub_nonneg x y).1 h⟩,?_⟩;rw[z5t];show V.fin y=V.fin (x+(y-x));congr 1;rw[Rat.add_comm,Rat.sub_add_cancel]
 rw[if_neg (by decide)] at h;exact⟨v,d,by rw[z7i,z3n h]⟩
theorem x4h {k:Int} {a x b c:V} (m:okV k a) (l:okV k x) (hb:okV k b) (g:okV k c) (h:x=z1k k (z1k k (z0i k a x) b) c) :
  (if k=1 then leV x (z0i k a x) else leV (z0i k a x) x)/\(if k=1 then leV x b else leV b x):=by
 have d:okV k (z0i k a x):=z6h m l;have i:=y6q d (y0m hb g);have bx:=y6q hb (y0m d g);have o:z1k k (z0i k a x) (z1k k b c)=x:=by rw[<- z9h hb,<- h]
 have j:z1k k b (z1k k (z0i k a x) c)=x:=by rw[<- z9h d,y6p hb,<- h]
 rw[o] at i;rw[j] at bx;exact⟨i,bx⟩
theorem y4n {k:Int} {v:V} (c:okV k v) (d:k=1\/k=2\/k=3):z0i k (oneV k) v=v:=by
 rw[y3z (v1u d) c];exact z8r c
theorem park1 {a x b:V} (u:okV 1 a) (z:okV 1 x) (hb:okV 1 b) (h:leV x (z0i 1 a x)) (g:leV x b):leV x (z0i 1 (z1x 1 a) b):=by
 have m:z1x 1 a=if 0<=cmpV a (.fin 0) then .fin 0 else .low:=rfl
 rw[m]
 split
 ·have:z0i 1 (.fin 0) b=b:=y4n (k:=1) hb (.inl rfl);rw[this];exact g
 rename_i o;have d:leV a (.fin 0):=(z4x _ _).1 (by omega);cases b with
 | inf=>cases x<;>trivial
 | low=>rw[times1];exact g
 | fin q =>
  rw[times1];cases x with
  | low=>trivial
  | inf=>exact g.elim
  | fin y =>
   exfalso
   rw[times1] at h;cases a with
   | inf=>exact d.elim
   | low=>exact h.elim
   | fin r =>
    have l:r<=0:=d;have i:r≠0:=by intro e;subst e;exact o (by decide +kernel)
    have s:y<=r+y:=h;have p:r<0:=Rat.lt_of_le_of_ne l i;have j:=Rat.add_lt_add_right (c:=y).2 p;rw[Rat.zero_add] at j;exact absurd s (Rat.not_le.2 j)
theorem park3 {a x b:V} (s:okV 3 a) (o:okV 3 x) (hb:okV 3 b) (h:leV (z0i 3 a x) x) (j:leV b x):leV (z0i 3 (z1x 3 a) b) x:=by
 have z:z1x 3 a=if cmpV a (.fin 1)<=0 then .fin 1 else .inf:=rfl
 have c:(3:Int)≠1:=by decide
 rw[z]
 split
 ·have:z0i 3 (.fin 1) b=b:=y4n (k:=3) hb (.inr (.inr rfl));rw[this];exact j
 rename_i A;rw[times23 c (by simp) (z0q hb c)];rw[times23 c (z0q s c) (z0q o c)] at h
 rcases z2e o c with rfl|⟨y,rfl,p⟩
 ·cases (mulV .inf b)<;>trivial
 rcases z2e hb c with rfl|⟨q,rfl,B⟩
 ·exact j.elim
 by_cases d:q=0
 ·subst d;rw[z2a];exact p
 exfalso
 have i:q<=y:=j;have l:0<q:=Rat.lt_of_le_of_ne B (fun e=>d e.symm);have g:0<y:=by
  refine Rat.lt_of_le_of_ne p (fun e=>?_);rw[<- e] at i;exact absurd i (Rat.not_le.2 l)
 have m:y≠0:=Rat.ne_of_gt g
 rcases z2e s c with rfl|⟨r,rfl,D⟩
 ·rw[z1v m] at h;exact h.elim
 rw[z1f] at h;have C:r*y<=1*y:=by rw[Rat.one_mul];exact h
 have u:r<=1:=Rat.le_of_mul_le_mul_right C g;exact A ((z4x _ _).2 u)
theorem park2 {a x b:V} (o:okV 2 a) (A:okV 2 x) (hb:okV 2 b) (h:leV (addV (z0i 2 a x) b) x):leV (z0i 2 (z1x 2 a) b) x:=by
 have n2:(2:Int)≠1:=by decide
 have p:okV 2 (z1x 2 a):=(y2g o).1;rw[times23 n2 (z0q p n2) (z0q hb n2)];rw[times23 n2 (z0q o n2) (z0q A n2)] at h
 rcases z2e A n2 with rfl|⟨y,rfl,B⟩
 ·cases (mulV (z1x 2 a) b)<;>trivial
 rcases z2e hb n2 with rfl|⟨s,rfl,z⟩
 ·have:addV (mulV a (.fin y)) .inf=.inf:=by cases (mulV a (.fin y))<;>rfl
  rw[this] at h;exact h.elim
 rcases z2e o n2 with rfl|⟨r,rfl,G⟩
 ·have e:z1x 2 .inf=.inf:=rfl;rw[e];by_cases j:y=0
  ·subst j;rw[z2a] at h;have k:(0:Rat)+s<=0:=h;rw[Rat.zero_add] at k;have:s=0:=Rat.le_antisymm k z;subst this;rw[z2a];exact Rat.le_refl
  rw[z1v j] at h;exact h.elim
 rw[z1f] at h;have k:r*y+s<=y:=h;have e:z1x 2 (.fin r)=if 0<=cmpQ r 1 then .inf else .fin (1 / (1-r)):=rfl
 rw[e]
 split
 ·rename_i i;have u:1<=r:=by
   rcases z1j r 1 with ⟨g,d⟩|⟨g,d⟩|⟨g,d⟩
   ·rw[d] at i;exact absurd i (by decide)
   ·rw[g];exact Rat.le_refl
   exact Rat.le_of_lt g
  have D:1*y<=r*y:=Rat.mul_le_mul_of_nonneg_right u B;rw[Rat.one_mul] at D;have E:r*y+s<=r*y+0:=by rw[Rat.add_zero];exact Rat.le_trans k D
  have F:s<=0:=Rat.add_le_add_left.1 E;have:s=0:=Rat.le_antisymm F z;subst this;rw[z2a];exact B
 rename_i i;have m:r<1:=by
  rcases z1j r 1 with ⟨g,d⟩|⟨g,d⟩|⟨g,d⟩
  ·exact g
  ·rw[d] at i;exact absurd (by decide) i
  rw[d] at i;exact absurd (by decide) i
 have C:0<1-r:=(Rat.lt_iff_sub_pos r 1).1 m;have l:1-r≠0:=Rat.ne_of_gt C;rw[z1f];show 1 / (1-r)*s<=y;refine Rat.le_of_mul_le_mul_left (c:=1-r) ?_ C;rw[<- Rat.mul_assoc,Rat.div_def,Rat.one_mul,Rat.mul_inv_cancel _ l,Rat.one_mul];rw[Rat.sub_eq_add_neg,Rat.add_mul,Rat.one_mul,Rat.neg_mul,<- Rat.sub_eq_add_neg];refine Rat.le_sub_iff.2 ?_;rw[Rat.add_comm];exact k
theorem v4e {k:Int} {a x b c:V} (g:okV k a) (i:okV k x) (hb:okV k b) (m:okV k c) (h:x=z1k k (z1k k (z0i k a x) b) c) :
  ∃ d,okV k d/\x=z1k k (z0i k (z1x k a) b) d:=by
 have o:=(y2g g).1;refine v8b (z6h o hb) i ?_
 rcases z4b g with rfl|rfl|rfl
 ·obtain⟨j,l⟩:=x4h g i hb m h;rw[if_pos rfl] at j l ⊢;exact park1 g i hb j l
 ·rw[if_neg (by decide)];have:=y6q (y0m (z6h g i) hb) m;rw[<- h,if_neg (by decide),z5t] at this;exact park2 g i hb this
 obtain⟨j,l⟩:=x4h g i hb m h;rw[if_neg (by decide)] at j l ⊢;exact park3 g i hb j l
theorem v5e {k:Int} {a b c d:V} (h:okV k a) (hb:okV k b) (i:okV k c) (j:okV k d) (l:b=z1k k a c) (m:a=z1k k b d):a=b:=by
 have x:=y6q h i;have y:=y6q hb j;rw[<- l] at x;rw[<- m] at y;by_cases g:k=1
 ·rw[if_pos g] at x y;exact z4u y x
 rw[if_neg g] at x y;exact z4u x y
namespace RK
variable {k:KK}
theorem ext {a b:RK k} (h:a.1=b.1):a=b:=Subtype.ext h
instance csr:CSR (RK k) where
 add a b:=⟨z1k k.1 a.1 b.1,y0m a.2 b.2⟩
 mul a b:=⟨z0i k.1 a.1 b.1,z6h a.2 b.2⟩
 zero:=⟨zeroV k.1,v6z k.2⟩
 one:=⟨oneV k.1,v1u k.2⟩
 star a:=⟨z1x k.1 a.1,(y2g a.2).1⟩
 add_comm a _:=ext (y6p a.2)
 add_assoc _ b _:=ext (z9h b.2)
 add_zero a:=ext (x5u a.2)
 mul_comm a b:=ext (y3z a.2 b.2)
 mul_assoc a b c:=ext (x1b a.2 b.2 c.2)
 mul_one a:=ext (z8r a.2)
 mul_zero a:=ext (x1j k.1 a.1)
 mul_add a b c:=ext (x1z a.2 b.2 c.2)
 star_eq a:=ext (y2g a.2).2.symm
 park a b x c h:=by
  obtain⟨d,hd,e⟩:=v4e a.2 x.2 b.2 c.2 (congrArg Subtype.val h);exact⟨⟨d,hd⟩,ext e⟩
 anti a b c d h1 h2:=ext (v5e a.2 b.2 c.2 d.2 (congrArg Subtype.val h1) (congrArg Subtype.val h2))
end RK
end
end Go.Proofs.YteappjogmnogcaaGreatDoor
