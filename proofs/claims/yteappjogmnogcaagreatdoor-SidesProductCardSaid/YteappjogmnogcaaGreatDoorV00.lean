/- Parts of a proof: Str Com RatL ML C1. -/
import Derived.Lib.Hide
import Derived.Lib.ItoaNum
import Derived.Lib.ItoaLen
import Derived.Test.YteappjogmnogcaaGreatDoorProg
import Derived.WalkKit
import Derived.WalkSpells
import Derived.WalkLawsBesides
import Derived.Lib.Strings
namespace Go.Proofs.YteappjogmnogcaaGreatDoor
set_option maxRecDepth 100000
set_option linter.unusedSimpArgs false
set_option linter.unusedVariables false
set_option linter.unusedSectionVars false
set_option maxHeartbeats 16000000
open Go Tryz
theorem qh {p : Prop} (h : p) : RowKit.Hid p := h
theorem exq {α : Sort _} (e : α) : ∃ x, x = e := ⟨e, rfl⟩
theorem nlr {n : Nat} : n ≤ n := Nat.le_refl n
theorem blr {B : Nat} {w : World} : RowKit.Below B w w := RowKit.Below.refl B w
theorem nxa {P : Program} {f : FuncId} {ar : Array Value} {w : World} {R : Ending} {Q : Ending → World → Prop} (h : Calls P f ar w (fun e w' => e = R ∧ RowKit.Below w.heap.size w w')) (k : ∀ w', RowKit.Hid (RowKit.Below w.heap.size w w') → Q R w') : Calls P f ar w Q :=
  h.mono fun e w' he => by rw [he.1]; exact k w' he.2
theorem nxb {P : Program} {f : FuncId} {ar : Array Value} {w0 w : World} {R : Ending} {Q : Ending → World → Prop} (h : Calls P f ar w (fun e w' => e = R ∧ RowKit.Below w.heap.size w w')) (B : RowKit.Hid (RowKit.Below w0.heap.size w0 w)) (k : ∀ w', RowKit.Hid (RowKit.Below w0.heap.size w0 w') → Q R w') : Calls P f ar w Q :=
  h.mono fun e w' he => by rw [he.1]; exact k w' (RowKit.Below.trans B (he.2.mono (RowKit.Below.size B)))
section
def dgt (c:UInt8):Bool:=decide (48<=c.toNat)&&decide (c.toNat<=57)
def dgts (l:List UInt8):Bool:=l.all dgt
def z1u (l:List UInt8):Bool :=
 decide (1<=l.length)&&decide (l.length<=1000)&&(decide (l.length=1)||decide (l.headD 0≠48))&&dgts l
def bts (s:ByteArray):List UInt8:=s.data.toList
def str (l:List UInt8):ByteArray:=⟨l.toArray⟩
theorem z2v (l:List UInt8):bts (str l)=l:=by simp[bts,str]
theorem y3j (s:ByteArray):str (bts s)=s:=by simp[bts,str]
theorem z1i (l:List UInt8):(str l).size=l.length:=by simp[str,ByteArray.size]
theorem z1q (s:ByteArray):(bts s).length=s.size:=by simp[bts]
theorem y8i {s t:ByteArray} (h:bts s=bts t):s=t:=by rw[<- y3j s,h,y3j]
theorem v9z (s:ByteArray) (k:Nat) (h:k<s.size):(bts s)[k]'(by rw[z1q];exact h)=s[k]:=rfl
theorem y9r (s:ByteArray) (k:Nat) (h:k<s.size):(bts s).take (k+1)=(bts s).take k++[s[k]]:=by
 rw[List.take_succ_eq_append_getElem (by rw[z1q];exact h)];rfl
theorem v4n (s:ByteArray) (k:Nat) (h:k<s.size):(bts s).getD k 0=s[k]:=by
 rw[List.getD_eq_getElem?_getD,List.getElem?_eq_getElem (by rw[z1q];exact h)];rfl
theorem x0b (s:ByteArray) (h:0<s.size):(bts s).headD 0=s[0]:=by
 rw[<- v4n s 0 h];cases bts s<;>rfl
theorem z7t (l:List UInt8) (c:UInt8):dgts (l++[c])=(dgts l&&dgt c):=by simp[dgts,List.all_append]
theorem y6n (s:ByteArray) (k:Nat) (h:k<s.size) (c:dgt s[k]=false):dgts (bts s)=false:=by
 unfold dgts;rw[List.all_eq_false];refine⟨s[k],?_,by simp[c]⟩;have:=List.getElem_mem (l:=bts s) (n:=k) (by rw[z1q];exact h);exact this
theorem z4s {l:List UInt8} (h:z1u l=true):1<=l.length/\l.length<=1000/\(l.length=1\/l.headD 0≠48)/\dgts l=true:=by
 simp only[z1u,Bool.and_eq_true,Bool.or_eq_true,decide_eq_true_eq] at h;exact⟨h.1.1.1,h.1.1.2,h.1.2,h.2⟩
theorem x5d {l:List UInt8} (h:1<=l.length) (g:l.length<=1000) (c:l.length=1\/l.headD 0≠48) (d:dgts l=true):z1u l=true:=by
 simp only[z1u,Bool.and_eq_true,Bool.or_eq_true,decide_eq_true_eq];exact⟨⟨⟨h,g⟩,c⟩,d⟩
theorem v7r {l:List UInt8} (h:dgts l=true) (k:Nat) (c:k<l.length):48<=l[k].toNat/\l[k].toNat<=57:=by
 have:=List.all_eq_true.1 h l[k] (List.getElem_mem _)
 simpa [dgt] using this
def num (l:List UInt8):Nat:=l.foldl (fun n c=>10*n+(c.toNat-48)) 0
abbrev dec (n:Nat):List UInt8:=Lib.decDigits n
theorem z6e (l:List UInt8) (c:UInt8):num (l++[c])=10*num l+(c.toNat-48):=by simp[num,List.foldl_append]
theorem z2x {n:Nat} (h:n<10):dec n=[UInt8.ofNat (48+n)]:=Lib.decDigits_one h
theorem y1t {n:Nat} (h:¬ n<10):dec n=dec (n / 10)++[UInt8.ofNat (48+n % 10)]:=by
 unfold dec;rw[Lib.decDigits,dif_neg h]
theorem u8n {n:Nat} (h:n<256):(UInt8.ofNat n).toNat=n:=by simp[UInt8.toNat_ofNat'];omega
theorem u8d {n:Nat} (h:n<10):(UInt8.ofNat (48+n)).toNat-48=n:=by rw[u8n (by omega)];omega
theorem z9i (n:Nat):num (dec n)=n:=by
 induction n using Nat.strongRecOn with
 | ind n ih =>
  by_cases h:n<10
  ·rw[z2x h];simp only[num,List.foldl];rw[u8d h];omega
  rw[y1t h,z6e,ih (n / 10) (by omega),u8d (by omega)];omega
theorem z7x {m n:Nat} (h:dec m=dec n):m=n:=by rw[<- z9i m,h,z9i]
theorem y7m (n:Nat):1<=(dec n).length:=by unfold dec;rw[Lib.decDigits_length];exact Lib.nDigits_pos n
theorem y9m (n:Nat):dgts (dec n)=true:=by
 induction n using Nat.strongRecOn with
 | ind n ih =>
  by_cases h:n<10
  ·rw[z2x h];simp only[dgts,List.all_cons,List.all_nil,dgt];rw[u8n (by omega)];simp;omega
  rw[y1t h,z7t,ih (n / 10) (by omega)];simp only[dgt];rw[u8n (by omega)];simp;omega
theorem y2d {l r:List UInt8} (h:1<=l.length):(l++r).headD 0=l.headD 0:=by cases l with
 | nil=>simp at h
 | cons a l=>rfl
theorem v7p (n:Nat) (h:1<=n):(dec n).headD 0≠48:=by
 induction n using Nat.strongRecOn with
 | ind n ih =>
  by_cases c:n<10
  ·rw[z2x c];simp only[List.headD_cons];intro e;have:=congrArg UInt8.toNat e;rw[u8n (by omega)] at this;simp at this;omega
  rw[y1t c,y2d (y7m _)];exact ih (n / 10) (by omega) (by omega)
theorem y3s {n:Nat} (h:(dec n).length<=1000):z1u (dec n)=true:=by
 refine x5d (y7m n) h ?_ (y9m n);by_cases c:n=0
 ·left;subst c;rw[z2x (by omega)];rfl
 right;exact v7p n (by omega)
theorem y3i {α:Type} (l:List α) (h:l≠[]):∃ m c,l=m++[c]:=⟨l.dropLast,l.getLast h,(List.dropLast_concat_getLast h).symm⟩
theorem u4s {c:UInt8} {n:Nat} (h:c.toNat=n):UInt8.ofNat n=c:=by rw[<- h];exact UInt8.ofNat_toNat
theorem x3u:∀ (k:Nat) (l:List UInt8),l.length=k->1<=l.length->l.headD 0≠48->dgts l=true->1<=num l/\dec (num l)=l:=by
 intro k
 induction k with
 | zero=>intro l B A;omega
 | succ k ih =>
  intro l d _ g h;obtain⟨m,c,rfl⟩:=y3i l (by intro e;subst e;simp at d);rw[z7t] at h;simp only[Bool.and_eq_true,dgt,decide_eq_true_eq] at h;obtain⟨p,z,o⟩:=h;simp at d;by_cases i:m=[]
  ·subst i;have u:num ([]++[c])=c.toNat-48:=by simp[num]
   have C:c.toNat≠48:=by
    intro e;apply g;have:=UInt8.toNat_inj.1 (show c.toNat=(48:UInt8).toNat from e);simpa using this
   rw[u];refine⟨by omega,?_⟩;rw[z2x (by omega),u4s (c:=c) (by omega)];rfl
  have j:1<=m.length:=by cases m with
   | nil=>exact absurd rfl i
   | cons a l=>simp
  rw[y2d j] at g;obtain⟨i1,s⟩:=ih m d j g p;rw[z6e];refine⟨by omega,?_⟩;rw[y1t (by omega),show (10*num m+(c.toNat-48)) / 10=num m by omega,s,u4s (c:=c) (by omega)]
theorem z9q {l:List UInt8} (h:z1u l=true):dec (num l)=l:=by
 obtain⟨m,o,j,k⟩:=z4s h;by_cases d:l.headD 0≠48
 ·exact(x3u _ l rfl m d k).2
 have g:l.length=1:=by rcases j with h|h;exact h;exact absurd h d
 match l,g with
 | [c],_ =>
  have i:c=48:=by simpa using d
  subst i;have:num [48]=0:=rfl;rw[this,z2x (by omega)];rfl
theorem z3u {n k:Nat}:(dec n).length<=k↔(n<10 ^ k/\1<=k):=by
 unfold dec;rw[Lib.decDigits_length]
 constructor
 ·intro h;exact⟨Nat.lt_of_lt_of_le (Lib.lt_pow_nDigits n) (Nat.pow_le_pow_right (by omega) h),Nat.le_trans (Lib.nDigits_pos n) h⟩
 intro ⟨h,g⟩
 induction k generalizing n with
 | zero=>omega
 | succ k ih =>
  by_cases d:n<10
  ·rw[Lib.nDigits_small d];omega
  rw[Lib.nDigits_big d];by_cases c:k=0
  ·subst c;simp at h;omega
  have:=ih (n:=n / 10) (by rw[Nat.pow_succ] at h;omega) (by omega);omega
theorem v8y (l:List UInt8) (d:dgts l=true):num l<10 ^ l.length:=by
 suffices h:∀ (k:Nat) (l:List UInt8),l.length=k->dgts l=true->num l<10 ^ l.length from h _ l rfl d
 intro k
 induction k with
 | zero=>intro l h _;have:l=[]:=List.length_eq_zero_iff.1 h;subst this;simp[num]
 | succ k ih =>
  intro l g d;obtain⟨m,c,rfl⟩:=y3i l (by intro e;subst e;simp at g);rw[z7t] at d;simp only[Bool.and_eq_true,dgt,decide_eq_true_eq] at d;simp at g;have:=ih m g d.1;rw[z6e,List.length_append,List.length_singleton,Nat.pow_succ];omega
theorem u1r {l m:List UInt8} (d:z1u l=true) (c:z1u m=true) (h:num l=num m):l=m:=by
 rw[<- z9q d,h,z9q c]
end
section
open Go.RowKit
theorem z0v {a b:Bool} (h:a=b):Ending.returned (.bool a)=.returned (.bool b):=by rw[h]
theorem z5v {k:IntKind} {a b:Int} (h:a=b):Ending.returned (.int k a)=.returned (.int k b):=by rw[h]
theorem v2u {a b:ByteArray} (h:a=b):Ending.returned (.string a)=.returned (.string b):=by rw[h]
theorem v5v {k c:IntKind} {a b a' b':Int} (h:a=a') (d:b=b'):Ending.returned (.tuple #[.int k a,.int c b])=.returned (.tuple #[.int k a',.int c b']):=by rw[h,d]
theorem below_drewN {B:Nat} {a w:World} (h:Below B a w) (n:Nat):Below B a (w.drewN n):=h.trans ⟨rfl,rfl,rfl,nlr,fun _ _=>rfl⟩
def lenV (v:Value):Nat:=match v with | .slice _ n _=>n|_=>0
theorem y7a (a:Option Addr) (n c:Nat):lenV (.slice a n c)=n:=rfl
def strV (v:Value):Nat:=match v with | .string s=>s.size|_=>0
theorem x3a (s:ByteArray):strV (.string s)=s.size:=rfl
def nth (xs:List Nat) (i:Nat):Nat:=xs.getD i 0
theorem y1i (xs:List Nat) (i:Nat) (h:i<xs.length):nth xs i=xs[i]:=by simp[nth,List.getD_eq_getElem?_getD,h]
theorem z1s (xs:List Nat) (i:Nat) (h:xs.length<=i):nth xs i=0:=by simp[nth,List.getD_eq_getElem?_getD,h]
theorem z8j (xs:List Nat) (k i:Nat) (h:i<k):nth (xs.take k) i=nth xs i:=by simp[nth,List.getD_eq_getElem?_getD,h]
theorem y6q (xs:List Nat) (k:Nat) (h:k<xs.length):xs.take (k+1)=xs.take k++[nth xs k]:=by
 rw[List.take_succ_eq_append_getElem h,y1i xs k h]
def vals (k:IntKind) (xs:List Nat):List Value:=xs.map fun n:Nat=>Value.int k (n:Int)
theorem x5q (k:IntKind) (xs:List Nat):(vals k xs).length=xs.length:=by simp[vals]
theorem y4r (k:IntKind) (xs:List Nat) (n:Nat):vals k xs++[.int k (n:Int)]=vals k (xs++[n]):=by simp[vals]
theorem v0y (k:IntKind) (xs:List Nat) (n:Nat):(vals k xs).take n=vals k (xs.take n):=by simp[vals,List.map_take]
theorem x5h (k:IntKind) (xs:List Nat) (i:Nat) (h:i<xs.length):(vals k xs)[i]?=some (.int k ((nth xs i:Nat):Int)):=by
 rw[y1i xs i h];simp[vals,h]
def Sl (w:World) (k:IntKind) (v:Value) (xs:List Nat):Prop :=
 (v=.slice none 0 0/\xs=[])\/∃ b off cap,v=.slice (some ⟨b,off,none⟩) xs.length cap/\b<w.heap.size/\xs.length<=cap/\cap<=maxLen /\
  ∀ i,i<xs.length->w.cell? ⟨b,off+i,none⟩=some (.int k ((nth xs i:Nat):Int))
theorem Sl.open {w:World} {k:IntKind} {v:Value} {xs:List Nat} (h:Sl w k v xs):∃ a cap b off,v=.slice a xs.length cap/\(0<xs.length->a=some ⟨b,off,none⟩)/\xs.length<=cap/\cap<=maxLen /\
  (0<xs.length->b<w.heap.size)/\∀ i,i<xs.length->w.cell? ⟨b,off+i,none⟩=some (.int k ((nth xs i:Nat):Int)):=by
 rcases h with ⟨c,rfl⟩|⟨b,off,cap,c,l,j,d,g⟩
 ·exact⟨none,0,0,0,c,by simp,by simp,by simp,by simp,by simp⟩
 exact⟨_,cap,b,off,c,fun _=>rfl,j,d,fun _=>l,g⟩
theorem Sl.nil (w:World) (k:IntKind):Sl w k (.slice none 0 0) []:=.inl ⟨rfl,rfl⟩
theorem Sl.below {B:Nat} {w g:World} {k:IntKind} {v:Value} {xs:List Nat} (h:Sl w k v xs) (hb:Below B w g) (u:w.heap.size<=B):Sl g k v xs:=by
 rcases h with h|⟨b,c,d,m,s,o,j,l⟩
 ·exact .inl h
 exact .inr ⟨b,c,d,m,Nat.lt_of_lt_of_le s hb.size,o,j,fun i hi=>(hb.cell (p:=⟨b,c+i,none⟩) (by show b<B;omega)).trans (l i hi)⟩
theorem Sl.take {w:World} {k:IntKind} {a:Option Addr} {n cap m:Nat} {xs:List Nat} (h:Sl w k (.slice a n cap) xs) (j:m<=xs.length):Sl w k (.slice a m cap) (xs.take m):=by
 rcases h with ⟨d,rfl⟩|⟨b,g,c,d,p,s,l,o⟩
 ·simp at d j;subst j;obtain⟨rfl,rfl,rfl⟩:=d;exact .inl ⟨rfl,rfl⟩
 simp at d;obtain⟨rfl,rfl,rfl⟩:=d;refine .inr ⟨b,g,cap,by rw[List.length_take,Nat.min_eq_left j],p,by rw[List.length_take];omega,l,fun i hi=>?_⟩;rw[List.length_take] at hi;rw[z8j _ _ _ (by omega)];exact o i (by omega)
def Own (w:World) (B:Nat) (e:TypeId) (k:IntKind) (v:Value) (xs:List Nat):Prop:=w.ownsRow B e 1 v xs.length (vals k xs)
theorem Own.nil (w:World) (B:Nat) (e:TypeId) (k:IntKind):Own w B e k (.slice none 0 0) []:=World.ownsRow_nil w B e 1
theorem Own.sl {w:World} {B:Nat} {e:TypeId} {k:IntKind} {v:Value} {xs:List Nat} (h:Own w B e k v xs):Sl w k v xs:=by
 rcases h.2 with ⟨c,p⟩|⟨g,d,j,c,_,l,o,m,s,u⟩
 ·exact .inl ⟨c,List.length_eq_zero_iff.1 p⟩
 refine .inr ⟨g,0,d,c,(Array.getElem?_eq_some_iff.1 l).1,o,m,fun i hi=>?_⟩;subst c;rw[Nat.zero_add,World.ownsRow.cellAt h i (by omega),x5h k xs i hi]
theorem Own.kept {w m:World} {B:Nat} {e:TypeId} {k:IntKind} {v:Value} {xs:List Nat} {l:Nat} (h:Own w B e k v xs) (hb:Below l w m) (s:w.heap.size<=l):Own m B e k v xs:=by
 refine⟨h.1,?_⟩
 rcases h.2 with o|⟨g,j,i,rfl,p,c,d⟩
 ·exact .inl o
 have:=(Array.getElem?_eq_some_iff.1 c).1;exact .inr ⟨g,j,i,rfl,p,by rw[hb.block g (by omega)];exact c,d⟩
theorem Own.mono {w:World} {B j:Nat} {e:TypeId} {k:IntKind} {v:Value} {xs:List Nat} (h:Own w B e k v xs) (m:j<=B):Own w j e k v xs:=by
 refine⟨h.1,?_⟩
 rcases h.2 with l|⟨g,i,d,rfl,o,c⟩
 ·exact .inl l
 exact .inr ⟨g,i,d,rfl,by omega,c⟩
theorem Own.take {w:World} {B:Nat} {e:TypeId} {k:IntKind} {a:Option Addr} {n cap m:Nat} {xs:List Nat} (h:Own w B e k (.slice a n cap) xs) (z:m<=xs.length):Own w B e k (.slice a m cap) (xs.take m):=by
 have o:(xs.take m).length=m:=by rw[List.length_take];omega
 refine⟨by rw[x5q];omega,?_⟩;rw[o]
 rcases h.2 with ⟨d,l⟩|⟨g,c,i,d,l,j,A,u,p,s⟩
 ·simp at d;obtain⟨rfl,rfl,rfl⟩:=d;have:m=0:=by omega
  subst this;exact .inl ⟨rfl,rfl⟩
 simp only[Value.slice.injEq] at d;obtain⟨rfl,rfl,rfl⟩:=d;refine .inr ⟨g,cap,i,rfl,l,j,by omega,u,p,?_⟩;rw[<- v0y,<- s,List.take_take];congr 1;omega
theorem Own.appended {w wr c:World} {B:Nat} {e:TypeId} {k:IntKind} {v v':Value} {l:List Nat} {x:Nat} {o:Obj} (h:Own wr B e k v l) (hb:Below B w wr) (i:B<=wr.heap.size)
  (d:c.ownsRow B e 1 v' (l.length+1) (vals k l++[.int k (x:Int)])) (j:(wr.alloc o).grownBy c v.ownBlock):Own c B e k v' (l++[x])/\Below B w c:=by
 constructor
 ·unfold Own;rw[y4r] at d;rw[List.length_append];exact d
 exact(hb.alloc i o).grown j (by simp;omega) (fun q g=>(World.ownsRow.lt h q g).1)
theorem Own.raw {w:World} {B:Nat} {e:TypeId} {k:IntKind} {v:Value} {l:List Nat} (h:Own w B e k v l):w.ownsRow B e 1 v l.length (vals k l):=h
theorem one_cell (k:IntKind) (x:Int):∀ u ∈ [Value.int k x],u.oneCell'=true:=by intro u c;simp at c;subst c;rfl
theorem Own.shape {w:World} {B:Nat} {e:TypeId} {k:IntKind} {v:Value} {xs:List Nat} (h:Own w B e k v xs):∃ a cap,v=.slice a xs.length cap:=by
 rcases h.2 with ⟨c,d⟩|⟨g,cap,i,c,_⟩
 ·exact⟨none,0,by rw[c,d]⟩
 exact⟨_,cap,c⟩
theorem Sl.shape {w:World} {k:IntKind} {v:Value} {xs:List Nat} (h:Sl w k v xs):∃ a cap,v=.slice a xs.length cap:=by
 rcases h with ⟨c,g⟩|⟨b,d,cap,c,_⟩
 ·exact⟨none,0,by rw[c,g];rfl⟩
 exact⟨_,cap,c⟩
end
section
def z6v (l:List UInt8):Bool:=l.headD 0==45
def z1a (l:List UInt8):List UInt8:=if z6v l then l.tail else l
def hasS (l:List UInt8):Bool:=l.any (·==47)
def upTo (l:List UInt8):List UInt8:=l.takeWhile (· != 47)
def z6t (l:List UInt8):List UInt8:=(l.dropWhile (· != 47)).tail
def denL (l:List UInt8):List UInt8:=if hasS l then z6t l else [49]
def okP (neg:Bool) (n d:List UInt8) (frac:Bool):Bool :=
 z1u n&&z1u d&&decide (n.length<=400)&&decide (d.length<=400)&&!(neg&&(n==[48]))&&!(frac&&(d==[48]||d==[49]))&&decide (Nat.gcd (num n) (num d)=1)
def sg (neg:Bool) (m:Nat):Int:=if neg then -(m:Int) else (m:Int)
def prsL (l:List UInt8):Option Rat :=
 if okP (z6v l) (upTo (z1a l)) (denL (z1a l)) (hasS (z1a l)) then some (mkRat (sg (z6v l) (num (upTo (z1a l)))) (num (denL (z1a l)))) else none
def prs (s:ByteArray):Option Rat:=prsL (bts s)
def fitQ (q:Rat):Prop:=(dec q.num.natAbs).length<=400/\(dec q.den).length<=400
instance (q:Rat):Decidable (fitQ q):=inferInstanceAs (Decidable (_/\_))
def negQ (q:Rat):Bool:=decide (q.num<0)
def txtL (q:Rat):List UInt8:=(if negQ q then [45] else [])++(dec q.num.natAbs++(if q.den=1 then [] else 47::dec q.den))
def txt (q:Rat):ByteArray:=str (txtL q)
def limR (q:Rat):ByteArray × Nat:=if fitQ q then (txt q,0) else (str [],2)
theorem v1z (neg:Bool) (m:Nat):(sg neg m).natAbs=m:=by unfold sg;split<;>simp
theorem u0m {neg:Bool} {m:Nat}:sg neg m=0↔m=0:=by unfold sg;split<;>omega
theorem v9f {neg:Bool} {m:Nat}:sg neg m<0↔(neg=true/\m≠0):=by unfold sg;cases neg<;>simp<;>omega
theorem y1k (q:Rat):sg (negQ q) q.num.natAbs=q.num:=by unfold sg negQ;by_cases h:q.num<0<;>simp[h]<;>omega
theorem v0h {n:Int} {d:Nat} (c:d≠0) (h:Nat.gcd n.natAbs d=1):(mkRat n d).num=n/\(mkRat n d).den=d:=by
 have:=Rat.mk_eq_mkRat n d c h;rw[<- this];exact⟨rfl,rfl⟩
theorem z5e:dec 0=[48]:=by rw[z2x (by omega)];rfl
theorem z5s:dec 1=[49]:=by rw[z2x (by omega)];rfl
theorem x1c {neg:Bool} {n d:List UInt8} {c:Bool} (h:okP neg n d c=true) :
  z1u n=true/\z1u d=true/\n.length<=400/\d.length<=400/\(neg=true->n≠[48])/\(c=true->d≠[48]/\d≠[49])/\Nat.gcd (num n) (num d)=1:=by
 simp only[okP,Bool.and_eq_true,Bool.not_eq_true',decide_eq_true_eq] at h;obtain⟨⟨⟨⟨⟨⟨p,o⟩,j⟩,k⟩,l⟩,g⟩,i⟩:=h;refine⟨p,o,j,k,?_,?_,i⟩
 ·intro m e;subst m;subst e;simp at l
 intro hf;subst hf;simp at g;exact g
theorem u5b {neg:Bool} {n d:List UInt8} {c:Bool} (m:z1u n=true) (l:z1u d=true) (i:n.length<=400) (j:d.length<=400)
  (k:neg=true->n≠[48]) (h:c=true->d≠[48]/\d≠[49]) (g:Nat.gcd (num n) (num d)=1):okP neg n d c=true:=by
 simp only[okP,Bool.and_eq_true,Bool.not_eq_true',decide_eq_true_eq];refine⟨⟨⟨⟨⟨⟨m,l⟩,i⟩,j⟩,?_⟩,?_⟩,g⟩
 ·cases neg
  ·rfl
  have:=k rfl;simp[this]
 cases c
 ·rfl
 have:=h rfl;simp[this.1,this.2]
theorem y2h {l:List UInt8} (h:z1u l=true):num l=0↔l=[48]:=by
 constructor
 ·intro e;rw[<- z9q h,e,z5e]
 intro e;subst e;rfl
structure IsQ (q:Rat) (neg:Bool) (n d:List UInt8):Prop where
 sign:negQ q=neg
 top:dec q.num.natAbs=n
 bot:dec q.den=d
 topv:q.num.natAbs=num n
 botv:q.den=num d
 fit:fitQ q
theorem u0k {neg:Bool} {n d:List UInt8} {c:Bool} (h:okP neg n d c=true) (z:c=false->d=[49]):IsQ (mkRat (sg neg (num n)) (num d)) neg n d:=by
 obtain⟨m,l,C,s,u,B,A⟩:=x1c h;have D:num d≠0:=by
  intro e;have g:=(y2h l).1 e;cases hf:c
  ·have:=z hf;rw[this] at g;simp at g
  exact(B hf).1 g
 obtain⟨p,i⟩:=v0h (n:=sg neg (num n)) D (by rw[v1z];exact A);have j:(mkRat (sg neg (num n)) (num d)).num.natAbs=num n:=by rw[p,v1z]
 have k:dec (num n)=n:=z9q m;have o:dec (num d)=d:=z9q l;refine⟨?_,by rw[j,k],by rw[i,o],j,i,?_⟩
 ·unfold negQ;rw[p];cases neg
  ·simp[sg]
  have:num n≠0:=fun e=>u rfl ((y2h m).1 e);simp[sg];omega
 unfold fitQ;rw[j,i,k,o];exact⟨C,s⟩
theorem x1p {l:List UInt8} {q:Rat} (h:prsL l=some q):okP (z6v l) (upTo (z1a l)) (denL (z1a l)) (hasS (z1a l))=true/\IsQ q (z6v l) (upTo (z1a l)) (denL (z1a l)):=by
 unfold prsL at h
 split at h
 ·rename_i c;have d:=Option.some.inj h;refine⟨c,?_⟩;rw[<- d];exact u0k c (fun h=>by unfold denL;rw[h];rfl)
 exact absurd h (by simp)
theorem v6y (l:List UInt8):l=(if z6v l then [45] else [])++z1a l:=by
 unfold z1a
 split
 ·rename_i h;cases l with
  | nil=>simp[z6v] at h
  | cons a l=>simp[z6v] at h;simp[h]
 simp
theorem y6x (l:List UInt8) (h:hasS l=true):l=upTo l++47::z6t l:=by
 induction l with
 | nil=>simp[hasS] at h
 | cons a l ih =>
  by_cases c:a=47
  ·subst c;simp[upTo,z6t]
  have:hasS l=true:=by simpa [hasS,c] using h
  have i:=ih this;have d:upTo (a::l)=a::upTo l:=by simp[upTo,c]
  have g:z6t (a::l)=z6t l:=by simp[z6t,c]
  rw[d,g,List.cons_append,<- i]
theorem y7c (l:List UInt8) (h:hasS l=false):upTo l=l:=by
 induction l with
 | nil=>rfl
 | cons a l ih =>
  simp[hasS] at h;have c:upTo (a::l)=a::upTo l:=by simp[upTo,h.1]
  rw[c,ih (by simp[hasS];exact h.2)]
theorem v0v {l:List UInt8} (h:dgts l=true):∀ c ∈ l,c≠47/\c≠45:=by
 intro c d;have:=List.all_eq_true.1 h c d;simp[dgt] at this
 constructor
 ·intro e;subst e;simp at this
 intro e;subst e;simp at this
theorem v8i {n r:List UInt8} (h:∀ c ∈ n,c≠47):upTo (n++47::r)=n/\z6t (n++47::r)=r/\hasS (n++47::r)=true:=by
 induction n with
 | nil=>simp[upTo,z6t,hasS]
 | cons a n ih =>
  have d:=h a (by simp);obtain⟨i1,g,j⟩:=ih (fun c i=>h c (by simp[i]));refine⟨?_,?_,by simp[hasS]⟩
  ·rw[List.cons_append];show upTo (a::_)=_;have:upTo (a::(n++47::r))=a::upTo (n++47::r):=by simp[upTo,d]
   rw[this,i1]
  have:z6t (a::(n++47::r))=z6t (n++47::r):=by simp[z6t,d]
  rw[List.cons_append,this,g]
theorem noS {n:List UInt8} (h:∀ c ∈ n,c≠47):hasS n=false:=by
 simp[hasS];exact h
theorem v1i {q:Rat} (h:fitQ q):prsL (txtL q)=some q:=by
 obtain⟨d,u⟩:=h;have v1:z1u (dec q.num.natAbs)=true:=y3s (by omega);have z:z1u (dec q.den)=true:=y3s (by omega);have j:∀ c ∈ dec q.num.natAbs,c≠47:=fun c B=>(v0v (y9m _) c B).1;have F:∀ R:List UInt8,z6v ((if negQ q then [45] else [])++(dec q.num.natAbs++R))=negQ q/\z1a ((if negQ q then [45] else [])++(dec q.num.natAbs++R))=dec q.num.natAbs++R:=by
  intro R;have:z6v ((if negQ q then [45] else [])++(dec q.num.natAbs++R))=negQ q:=by
   cases g:negQ q
   ·have k:=y7m q.num.natAbs;have d:=y9m q.num.natAbs
    revert k d
    generalize dec q.num.natAbs=l;intro k d;cases l with
    | nil=>simp at k
    | cons a l=>have:=(v0v d a (by simp)).2;simp[z6v,this]
   simp[z6v]
  refine⟨this,?_⟩;unfold z1a;rw[this];cases negQ q<;>simp
 have i:denL (dec q.num.natAbs++(if q.den=1 then [] else 47::dec q.den))=dec q.den/\upTo (dec q.num.natAbs++(if q.den=1 then [] else 47::dec q.den))=dec q.num.natAbs /\
   hasS (dec q.num.natAbs++(if q.den=1 then [] else 47::dec q.den))=decide (q.den≠1):=by
  by_cases g:q.den=1
  ·rw[if_pos g,List.append_nil,g];have:=noS j;refine⟨by unfold denL;rw[this,z5s];rfl,y7c _ this,by rw[this];simp⟩
  rw[if_neg g];obtain⟨i1,D,m⟩:=v8i (r:=dec q.den) j;exact⟨by unfold denL;rw[m,D];rfl,i1,by rw[m];simp[g]⟩
 obtain⟨G,A⟩:=F (if q.den=1 then [] else 47::dec q.den)
 obtain⟨E,o,p⟩:=i;have s:okP (negQ q) (dec q.num.natAbs) (dec q.den) (decide (q.den≠1))=true:=by
  refine u5b v1 z d u ?_ ?_ ?_
  ·intro C e;have:q.num.natAbs=0:=z7x (e.trans z5e.symm);simp[negQ] at C;omega
  ·intro hf;simp at hf;refine⟨fun e=>?_,fun e=>hf ?_⟩
   ·exact q.den_nz (z7x (e.trans z5e.symm))
   exact z7x (e.trans z5s.symm)
  rw[z9i,z9i];exact q.reduced
 unfold prsL txtL;rw[G,A,E,o,p,if_pos s,z9i,z9i,y1k,Rat.mkRat_self]
theorem z2k {q:Rat} (h:fitQ q):prs (txt q)=some q:=by unfold prs txt;rw[z2v];exact v1i h
theorem v2f {l:List UInt8} {q:Rat} (h:prsL l=some q):l=txtL q/\fitQ q:=by
 obtain⟨k,c⟩:=x1p h;refine⟨?_,c.fit⟩;have e:=v6y l;have g:=x1c k;unfold txtL;rw[c.sign,c.top];have:z1a l=upTo (z1a l)++(if q.den=1 then [] else 47::dec q.den):=by
  cases d:hasS (z1a l)
  ·have i:denL (z1a l)=[49]:=by unfold denL;rw[d];rfl
   have:q.den=1:=z7x (c.bot.trans (i.trans z5s.symm));rw[if_pos this,List.append_nil,y7c _ d]
  have i:denL (z1a l)=z6t (z1a l):=by unfold denL;rw[d];rfl
  have:q.den≠1:=by
   intro m;have j:=c.bot;rw[m,z5s] at j;exact(g.2.2.2.2.2.1 d).2 j.symm
  rw[if_neg this,c.bot,i];exact y6x _ d
 rw[<- this];exact e
theorem z2t {s:ByteArray} {q:Rat} (h:prs s=some q):s=txt q/\fitQ q:=by
 obtain⟨d,c⟩:=v2f h;exact⟨by unfold txt;rw[<- d,y3j],c⟩
theorem u0v {p q:Rat} (d:fitQ p) (c:fitQ q) (h:txt p=txt q):p=q:=by
 have:=z2k d;rw[h,z2k c] at this;exact(Option.some.inj this).symm
def szQ (k:Nat) (q:Rat):Prop:=q.num.natAbs<10 ^ k/\q.den<10 ^ k
theorem v0m {q:Rat}:fitQ q↔szQ 400 q:=by
 unfold fitQ szQ;rw[z3u,z3u];omega
theorem szQ.mono {j k:Nat} {q:Rat} (h:szQ j q) (c:j<=k):szQ k q :=
 ⟨Nat.lt_of_lt_of_le h.1 (Nat.pow_le_pow_right (by omega) c),Nat.lt_of_lt_of_le h.2 (Nat.pow_le_pow_right (by omega) c)⟩
theorem y8d {n:Int} {d:Nat} (c:d≠0):(mkRat n d).num.natAbs<=n.natAbs/\(mkRat n d).den<=d:=by
 rw[Rat.num_mkRat,Rat.den_mkRat,if_neg c,if_neg c];exact⟨by rw[Int.natAbs_ediv_of_dvd];exact Nat.div_le_self _ _;exact Int.ofNat_dvd_left.2 (Nat.gcd_dvd_right _ _),Nat.div_le_self _ _⟩
theorem y7b {a b A B:Nat} (c:a<A) (d:b<B):a*b<A*B:=by
 rcases Nat.eq_zero_or_pos b with h|h
 ·subst h;rw[Nat.mul_zero];exact Nat.mul_pos (by omega) (by omega)
 exact Nat.lt_of_lt_of_le (Nat.mul_lt_mul_of_pos_right c h) (Nat.mul_le_mul_left _ (by omega))
theorem szQ.mul {j k:Nat} {p q:Rat} (h:szQ j p) (c:szQ k q):szQ (j+k) (p*q):=by
 rw[Rat.mul_def'];obtain⟨g,i⟩:=y8d (n:=p.num*q.num) (d:=p.den*q.den) (Nat.mul_ne_zero p.den_nz q.den_nz);rw[Int.natAbs_mul] at g
 constructor
 ·rw[Nat.pow_add];exact Nat.lt_of_le_of_lt g (y7b h.1 c.1)
 rw[Nat.pow_add];exact Nat.lt_of_le_of_lt i (y7b h.2 c.2)
theorem szQ.add {j k:Nat} {p q:Rat} (g:szQ j p) (c:szQ k q):szQ (j+k+1) (p+q):=by
 rw[Rat.add_def'];obtain⟨o,l⟩:=y8d (n:=p.num*q.den+q.num*p.den) (d:=p.den*q.den) (Nat.mul_ne_zero p.den_nz q.den_nz);have h:=Int.natAbs_add_le (p.num*q.den) (q.num*p.den);rw[Int.natAbs_mul,Int.natAbs_mul,Int.natAbs_natCast,Int.natAbs_natCast] at h;have s:=y7b g.1 c.2;have i:=y7b c.1 g.2;have m:=y7b g.2 c.2;rw[Nat.mul_comm (10 ^ k)] at i
 constructor
 ·rw[Nat.pow_succ,Nat.pow_add];omega
 rw[Nat.pow_succ,Nat.pow_add];omega
theorem szQ.neg {j:Nat} {p:Rat} (c:szQ j p):szQ j (-p):=by
 refine⟨?_,?_⟩
 ·rw[Rat.neg_num,Int.natAbs_neg];exact c.1
 rw[Rat.neg_den];exact c.2
theorem z3c {q:Rat} (h:fitQ q):(txt q).size<=802:=by
 unfold txt;rw[z1i];unfold txtL;obtain⟨d,c⟩:=h;simp only[List.length_append];have:(if negQ q then [45] else ([]:List UInt8)).length<=1:=by split<;>simp
 have:(if q.den=1 then [] else 47::dec q.den).length<=401:=by split<;>simp;omega
 omega
theorem x1a (q:Rat):(limR q).1.size<=802:=by
 unfold limR;split
 ·rename_i h;exact z3c h
 rw[z1i];simp
theorem z8p {q:Rat} (h:fitQ q):limR q=(txt q,0):=by unfold limR;rw[if_pos h]
theorem v0e {q:Rat} (h:¬ fitQ q):limR q=(str [],2):=by unfold limR;rw[if_neg h]
def x0h (a b:ByteArray):ByteArray × Nat:=match prs a,prs b with|some x,some y=>limR (x+y)|_,_=>(str [],1)
def x8m (a b:ByteArray):ByteArray × Nat:=match prs a,prs b with|some x,some y=>limR (x-y)|_,_=>(str [],1)
def y9g (a b:ByteArray):ByteArray × Nat:=match prs a,prs b with|some x,some y=>limR (x*y)|_,_=>(str [],1)
def y5n (a b:ByteArray):ByteArray × Nat:=match prs a,prs b with|some x,some y=>if y=0 then (str [],4) else limR (x / y)|_,_=>(str [],1)
def cmpQ (x y:Rat):Int:=if x<y then -1 else if x=y then 0 else 1
def y3x (a b:ByteArray):Int:=match prs a,prs b with|some x,some y=>cmpQ x y|_,_=>0
def sumF (p:Bool) (a:Nat) (q:Bool) (b:Nat):Bool × Nat:=if p=q then (p,a+b) else if a<b then (q,b-a) else (p,a-b)
theorem y7v (p:Bool) (a:Nat) (q:Bool) (b:Nat):sg (sumF p a q b).1 (sumF p a q b).2=sg p a+sg q b:=by
 unfold sumF sg;cases p<;>cases q<;>simp<;>(try split)<;>(try simp)<;>omega
theorem x9t (p:Bool) (a:Nat) (q:Bool) (b:Nat):(sumF p a q b).2<=a+b:=by
 unfold sumF;split
 ·exact nlr
 split<;>simp<;>omega
theorem v8z (p q:Bool) (m n:Nat):sg p m*sg q n=sg (p != q) (m*n):=by
 unfold sg;cases p<;>cases q<;>simp[Int.neg_mul,Int.mul_neg]
theorem u5s (p:Bool) (m n:Nat):sg p m*(n:Int)=sg p (m*n):=by
 unfold sg;cases p<;>simp[Int.neg_mul]
theorem v8s (p:Bool) (m:Nat):sg (!p) m=- sg p m:=by unfold sg;cases p<;>simp
theorem z8t (x:Rat) (d:Nat):x.num*(d:Int)=sg (negQ x) (x.num.natAbs*d):=by
 rw[<- u5s,y1k]
theorem u5r (x y:Rat):x+y=mkRat (sg (sumF (negQ x) (x.num.natAbs*y.den) (negQ y) (y.num.natAbs*x.den)).1 (sumF (negQ x) (x.num.natAbs*y.den) (negQ y) (y.num.natAbs*x.den)).2) (x.den*y.den):=by
 rw[y7v,<- z8t,<- z8t,Rat.add_def']
theorem u5y (x y:Rat):x-y=mkRat (sg (sumF (negQ x) (x.num.natAbs*y.den) (!negQ y) (y.num.natAbs*x.den)).1 (sumF (negQ x) (x.num.natAbs*y.den) (!negQ y) (y.num.natAbs*x.den)).2) (x.den*y.den):=by
 rw[y7v,v8s,<- z8t,<- z8t,Rat.sub_def',Int.sub_eq_add_neg]
theorem u5t (x y:Rat):x*y=mkRat (sg (negQ x != negQ y) (x.num.natAbs*y.num.natAbs)) (x.den*y.den):=by
 rw[<- v8z,y1k,y1k,Rat.mul_def']
theorem u5v (y:Rat):y⁻¹=mkRat (sg (negQ y) y.den) y.num.natAbs:=by
 rw[Rat.inv_def];have h:=y1k y;unfold sg at h ⊢;cases c:negQ y
 ·rw[c] at h;simp at h;rw[<- h,Rat.divInt_ofNat];simp
 rw[c] at h;simp only[if_true] at h;rw[<- h,Rat.divInt_neg',Rat.divInt_ofNat];simp
theorem u3z (x y:Rat):x / y=mkRat (sg (negQ x != negQ y) (x.num.natAbs*y.den)) (x.den*y.num.natAbs):=by
 rw[Rat.div_def,u5v,<- v8z,y1k]
 conv=>lhs;rw[<- Rat.mkRat_self x]
 rw[Rat.mkRat_mul_mkRat]
theorem u3x (x y:Rat):cmpQ x y=if (sumF (negQ x) (x.num.natAbs*y.den) (!negQ y) (y.num.natAbs*x.den)).2=0 then 0 else if (sumF (negQ x) (x.num.natAbs*y.den) (!negQ y) (y.num.natAbs*x.den)).1=true then -1 else 1:=by
 have h:=y7v (negQ x) (x.num.natAbs*y.den) (!negQ y) (y.num.natAbs*x.den);rw[v8s,<- z8t,<- z8t] at h;unfold cmpQ;have c:=Rat.lt_iff x y;have g:=Rat.eq_iff_mul_eq_mul (p:=x) (q:=y);generalize sumF (negQ x) (x.num.natAbs*y.den) (!negQ y) (y.num.natAbs*x.den)=r at h ⊢;obtain⟨s,k⟩:=r;simp only at h ⊢;by_cases d:k=0
 ·rw[if_pos d];have:sg s k=0:=u0m.2 d;rw[if_neg (by rw[c];omega),if_pos (by rw[g];omega)]
 rw[if_neg d];cases s
 ·have:0<sg false k:=by unfold sg;simp;omega
  rw[if_neg (by rw[c];omega),if_neg (by rw[g];omega)];rfl
 have:sg true k<0:=by unfold sg;simp;omega
 rw[if_pos (by rw[c];omega)];rfl
theorem v3b (z:Int) (d:Nat) (g:d≠0):(mkRat z d).num.natAbs=z.natAbs / Nat.gcd z.natAbs d/\(mkRat z d).den=d / Nat.gcd z.natAbs d/\negQ (mkRat z d)=decide (z<0):=by
 have c:=Rat.num_mkRat z d;have h:=Rat.den_mkRat z d;rw[if_neg g,Nat.gcd_comm] at c h;have i:(Nat.gcd z.natAbs d:Int) ∣ z:=Int.ofNat_dvd_left.2 (Nat.gcd_dvd_left _ _);have j:0<Nat.gcd z.natAbs d:=Nat.gcd_pos_of_pos_right _ (Nat.pos_of_ne_zero g);refine⟨?_,h,?_⟩
 ·rw[c,Int.natAbs_ediv_of_dvd i,Int.natAbs_natCast]
 unfold negQ;rw[c];have:z / (Nat.gcd z.natAbs d:Int)<0↔z<0:=by
  rw[Int.ediv_lt_iff_lt_mul (by omega)];simp
 rw[decide_eq_decide];exact this
end
section
inductive V where
 | inf|low|fin (q:Rat)
 deriving DecidableEq
def infS:ByteArray:=⟨#[105,110,102]⟩
def lowS:ByteArray:=⟨#[45,105,110,102]⟩
def okV (k:Int):V->Prop
 | .inf=>1<=k/\k<=3
 | .low=>k=1
 | .fin q=>k=1\/((k=2\/k=3)/\0<=q)
instance (k:Int) (v:V):Decidable (okV k v):=by cases v<;>unfold okV<;>infer_instance
def rdV (s:ByteArray):Option V:=if s=infS then some .inf else if s=lowS then some .low else (prs s).map .fin
def vprs (k:Int) (s:ByteArray):Option V:=(rdV s).filter fun v=>decide (okV k v)
def vtxt:V->ByteArray
 | .inf=>infS
 | .low=>lowS
 | .fin q=>txt q
def fitV:V->Prop
 | .fin q=>fitQ q
 | _=>True
def limV:V->ByteArray × Nat
 | .fin q=>limR q
 | v=>(vtxt v,0)
def cmpV:V->V->Int
 | .inf,.inf=>0
 | .low,.low=>0
 | .low,_=>-1
 | _,.inf=>-1
 | _,.low=>1
 | .inf,_=>1
 | .fin x,.fin y=>cmpQ x y
def zeroV (k:Int):V:=if k=1 then .inf else .fin 0
def oneV (k:Int):V:=if k=1 then .fin 0 else .fin 1
def addV:V->V->V
 | .fin x,.fin y=>.fin (x+y)
 | _,_=>.inf
def z1p (k:Int) (v w:V):V:=if k=2 then addV v w else if k=1 then (if 0<cmpV v w then w else v) else (if cmpV v w<0 then w else v)
def z0i (k:Int) (v w:V):V :=
 if v=zeroV k\/w=zeroV k then zeroV k else match v,w with
  | .inf,_=>.inf
  | _,.inf=>.inf
  | .low,_=>.low
  | _,.low=>.low
  | .fin x,.fin y=>if k=1 then .fin (x+y) else .fin (x*y)
def z1z (k:Int) (v:V):V :=
 if k=1 then (if 0<=cmpV v (.fin 0) then .fin 0 else .low)
 else if k=3 then (if cmpV v (.fin 1)<=0 then .fin 1 else .inf)
 else match v with
  | .fin x=>if 0<=cmpQ x 1 then .inf else .fin (1 / (1-x))
  | _=>.inf
def wtV (k:Int):V->Prop
 | .fin q=>k=1\/((k=2\/k=3)/\0<q)
 | _=>False
instance (k:Int) (v:V):Decidable (wtV k v):=by cases v<;>unfold wtV<;>infer_instance
def u3p (k:Int) (v w:V):Int:=if k=1 then cmpV v w else cmpV w v
def argS:ByteArray × Nat:=(str [],1)
def z0q (k:Int) (a:ByteArray):Bool:=(vprs k a).isSome
def z0m (k:Int) (a:ByteArray):Bool:=match rdV a with|some v=>decide (wtV k v)|none=>false
def z3v (k:Int):Bool:=decide (1<=k)&&decide (k<=3)
def z0z (k:Int):ByteArray:=if z3v k then vtxt (zeroV k) else str []
def oneF (k:Int):ByteArray:=if z3v k then vtxt (oneV k) else str []
def z1k (k:Int) (a b:ByteArray):ByteArray × Nat:=match vprs k a,vprs k b with|some v,some w=>limV (z1p k v w)|_,_=>argS
def z0g (k:Int) (a b:ByteArray):ByteArray × Nat:=match vprs k a,vprs k b with|some v,some w=>limV (z0i k v w)|_,_=>argS
def z5t (k:Int) (a:ByteArray):ByteArray × Nat:=match vprs k a with|some v=>limV (z1z k v)|none=>argS
def u5z (k:Int) (v w:V):Prop:=(v=zeroV k\/wtV k v)/\wtV k w
instance (k:Int) (v w:V):Decidable (u5z k v w):=inferInstanceAs (Decidable (_/\_))
def y5c (k:Int) (a b:ByteArray):Int:=match vprs k a,vprs k b with|some v,some w=>u3p k v w|_,_=>0
theorem y8q:prs infS=none:=by decide +kernel
theorem y3p:prs lowS=none:=by decide +kernel
theorem y8n {v:V} (h:fitV v):rdV (vtxt v)=some v:=by
 cases v with
 | inf=>simp[rdV,vtxt]
 | low=>simp[rdV,vtxt,show lowS≠infS by decide]
 | fin q =>
  have c:=z2k h;have g:txt q≠infS:=by intro e;rw[e,y8q] at c;simp at c
  have d:txt q≠lowS:=by intro e;rw[e,y3p] at c;simp at c
  simp[rdV,vtxt,g,d,c]
theorem y2r {s:ByteArray} {v:V} (h:rdV s=some v):s=vtxt v/\fitV v:=by
 unfold rdV at h
 split at h
 ·rename_i e;have:=Option.some.inj h;subst this;exact⟨e,trivial⟩
 split at h
 ·rename_i e;have:=Option.some.inj h;subst this;exact⟨e,trivial⟩
 cases c:prs s with
 | none=>rw[c] at h;simp at h
 | some q=>rw[c] at h;simp at h;subst h;exact z2t c
theorem z3e {k:Int} {s:ByteArray} {v:V}:vprs k s=some v↔rdV s=some v/\okV k v:=by
 unfold vprs;rw[Option.filter_eq_some_iff];simp
theorem x6e {v w:V} (c:fitV v) (d:fitV w) (h:vtxt v=vtxt w):v=w:=by
 have:=y8n c;rw[h,y8n d] at this;exact(Option.some.inj this).symm
theorem x5v {k:Int} {v:V} (h:fitV v) (c:okV k v):vprs k (vtxt v)=some v:=z3e.2 ⟨y8n h,c⟩
theorem y0r {v:V} (h:fitV v):limV v=(vtxt v,0):=by cases v<;>first|rfl|exact z8p h
def leV:V->V->Prop
 | .low,_=>True
 | _,.inf=>True
 | .fin x,.fin y=>x<=y
 | _,_=>False
theorem z1n (x y:Rat):(x<y/\cmpQ x y=-1)\/(x=y/\cmpQ x y=0)\/(y<x/\cmpQ x y=1):=by
 unfold cmpQ;by_cases c:x<y
 ·left;rw[if_pos c];exact⟨c,rfl⟩
 by_cases d:x=y
 ·right;left;rw[if_neg c,if_pos d];exact⟨d,rfl⟩
 right;right;rw[if_neg c,if_neg d]
 refine⟨?_,rfl⟩;exact Rat.lt_of_le_of_ne (Rat.not_lt.1 c) (Ne.symm d)
theorem z5a (v w:V):cmpV v w<=0↔leV v w:=by
 cases v<;>cases w<;>simp[cmpV,leV]
 rename_i x y
 rcases z1n x y with ⟨h,e⟩|⟨h,e⟩|⟨h,e⟩<;>rw[e]
 ·simp[Rat.le_of_lt h]
 ·subst h;simp
 simp;exact Rat.not_le.2 h
theorem z8v (v w:V):cmpV v w=-1\/cmpV v w=0\/cmpV v w=1:=by
 cases v<;>cases w<;>simp[cmpV]
 rename_i x y
 rcases z1n x y with ⟨h,e⟩|⟨h,e⟩|⟨h,e⟩<;>simp[e]
theorem y3q (v w:V):cmpV v w=0↔v=w:=by
 cases v<;>cases w<;>simp[cmpV]
 rename_i x y
 rcases z1n x y with ⟨h,e⟩|⟨h,e⟩|⟨h,e⟩<;>rw[e]
 ·simp;exact Rat.ne_of_lt h
 ·simp[h]
 simp;exact Rat.ne_of_gt h
theorem y0z (v w:V):cmpV w v=- cmpV v w:=by
 cases v<;>cases w<;>simp[cmpV]
 rename_i x y
 rcases z1n x y with ⟨h,e⟩|⟨h,e⟩|⟨h,e⟩<;>rcases z1n y x with ⟨c,d⟩|⟨c,d⟩|⟨c,d⟩<;>rw[e,d]<;>try rfl
 ·exact absurd (Rat.le_of_lt c) (Rat.not_le.2 h)
 ·subst c;exact absurd h Rat.lt_irrefl
 ·subst h;exact absurd c Rat.lt_irrefl
 ·subst h;exact absurd c Rat.lt_irrefl
 ·subst c;exact absurd h Rat.lt_irrefl
 exact absurd (Rat.le_of_lt c) (Rat.not_le.2 h)
theorem z8w (v:V):leV v v:=by rw[<- z5a,(y3q v v).2 rfl];omega
theorem z2d (v w:V):leV v w\/leV w v:=by rw[<- z5a,<- z5a,y0z v w];omega
theorem z4w {v w:V} (d:leV v w) (c:leV w v):v=w:=by
 rw[<- z5a] at d c;rw[y0z v w] at c;exact(y3q v w).1 (by omega)
theorem z1d {u v w:V} (d:leV u v) (c:leV v w):leV u w:=by
 cases u<;>cases v<;>cases w<;>simp_all [leV]
 exact Rat.le_trans d c
noncomputable def minV (v w:V):V:=open Classical in if leV v w then v else w
noncomputable def maxV (v w:V):V:=open Classical in if leV w v then v else w
theorem u1s (v w:V):(if 0<cmpV v w then w else v)=minV v w:=by
 unfold minV;have:=z5a v w;by_cases h:leV v w
 ·rw[if_pos h,if_neg];have:=this.2 h;omega
 rw[if_neg h,if_pos];have:¬ cmpV v w<=0:=fun c=>h (this.1 c);omega
theorem u1v (v w:V):(if cmpV v w<0 then w else v)=maxV v w:=by
 unfold maxV;have:=z5a w v;rw[y0z v w] at this;by_cases h:leV w v
 ·rw[if_pos h,if_neg];have:=this.2 h;omega
 rw[if_neg h,if_pos];have:¬ -cmpV v w<=0:=fun c=>h (this.1 c);omega
theorem z3x {v w:V} (h:leV v w):minV v w=v:=by unfold minV;rw[if_pos h]
theorem z4g {v w:V} (h:leV w v):minV v w=w:=by
 unfold minV;by_cases c:leV v w
 ·rw[if_pos c];exact z4w c h
 rw[if_neg c]
theorem z3m {v w:V} (h:leV v w):maxV v w=w:=by
 unfold maxV;by_cases c:leV w v
 ·rw[if_pos c];exact z4w h c ▸ rfl
 rw[if_neg c]
theorem z3p {v w:V} (h:leV w v):maxV v w=v:=by unfold maxV;rw[if_pos h]
theorem x1v (v w:V):minV v w=minV w v:=by
 rcases z2d v w with h|h
 ·rw[z3x h,z4g h]
 rw[z4g h,z3x h]
theorem x0y (v w:V):maxV v w=maxV w v:=by
 rcases z2d v w with h|h
 ·rw[z3m h,z3p h]
 rw[z3p h,z3m h]
theorem x7p (u v w:V):minV (minV u v) w=minV u (minV v w):=by
 rcases z2d u v with c|c<;>rcases z2d v w with d|d
 ·rw[z3x c,z3x d,z3x c,z3x (z1d c d)]
 ·rw[z3x c,z4g d]
 ·rw[z4g c,z3x d,z4g c]
 rw[z4g c,z4g d,z4g (z1d d c)]
theorem x7m (u v w:V):maxV (maxV u v) w=maxV u (maxV v w):=by
 rcases z2d u v with c|c<;>rcases z2d v w with d|d
 ·rw[z3m c,z3m d,z3m (z1d c d)]
 ·rw[z3m c,z3p d,z3m c]
 ·rw[z3p c,z3m d]
 rw[z3p c,z3p d,z3p c,z3p (z1d d c)]
theorem v5p {f:V->V} (v w:V) (hf:∀ x y,(x=v\/x=w)->(y=v\/y=w)->leV x y->leV (f x) (f y)):f (minV v w)=minV (f v) (f w):=by
 rcases z2d v w with h|h
 ·rw[z3x h,z3x (hf v w (.inl rfl) (.inr rfl) h)]
 rw[z4g h,z4g (hf w v (.inr rfl) (.inl rfl) h)]
theorem v5c {f:V->V} (v w:V) (hf:∀ x y,(x=v\/x=w)->(y=v\/y=w)->leV x y->leV (f x) (f y)):f (maxV v w)=maxV (f v) (f w):=by
 rcases z2d v w with h|h
 ·rw[z3m h,z3m (hf v w (.inl rfl) (.inr rfl) h)]
 rw[z3p h,z3p (hf w v (.inr rfl) (.inl rfl) h)]
theorem z8a (v w:V):z1p 1 v w=minV v w:=by unfold z1p;rw[if_neg (by decide),if_pos rfl,u1s]
theorem z6g (v w:V):z1p 2 v w=addV v w:=by unfold z1p;rw[if_pos rfl]
theorem z7z (v w:V):z1p 3 v w=maxV v w:=by unfold z1p;rw[if_neg (by decide),if_neg (by decide),u1v]
theorem z4d {k:Int} {v:V} (h:okV k v):k=1\/k=2\/k=3:=by
 cases v<;>simp only[okV] at h<;>omega
theorem z0r {k:Int} {v:V} (h:okV k v) (c:k≠1):v≠.low:=by
 intro e;subst e;exact c h
theorem z2i {k:Int} {v:V} (h:okV k v) (c:k≠1):v=.inf\/∃ q,v=.fin q/\0<=q:=by
 cases v with
 | inf=>exact .inl rfl
 | low=>exact absurd h c
 | fin q=>right;refine⟨q,rfl,?_⟩;simp only[okV] at h;rcases h with h|h;exact absurd h c;exact h.2
theorem okV23' {k:Int} (c:k=2\/k=3) {q:Rat} (h:0<=q):okV k (.fin q):=.inr ⟨c,h⟩
theorem times1 (v w:V):z0i 1 v w=match v,w with
  | .inf,_=>.inf
  | _,.inf=>.inf
  | .low,_=>.low
  | _,.low=>.low
  | .fin x,.fin y=>.fin (x+y):=by
 unfold z0i zeroV;cases v<;>cases w<;>simp
def mulV (v w:V):V :=
 if v=.fin 0\/w=.fin 0 then .fin 0 else match v,w with
  | .fin x,.fin y=>.fin (x*y)
  | _,_=>.inf
theorem times23 {k:Int} (c:k≠1) {v w:V} (d:v≠.low) (g:w≠.low):z0i k v w=mulV v w:=by
 unfold z0i mulV zeroV;rw[if_neg c];by_cases h:v=.fin 0\/w=.fin 0
 ·rw[if_pos h,if_pos h]
 rw[if_neg h,if_neg h];cases v<;>cases w<;>simp_all
theorem y3u (v w:V):z0i 1 v w=z0i 1 w v:=by
 rw[times1,times1];cases v<;>cases w<;>simp;exact Rat.add_comm ..
theorem x1k (u v w:V):z0i 1 (z0i 1 u v) w=z0i 1 u (z0i 1 v w):=by
 simp only[times1];cases u<;>cases v<;>cases w<;>simp;exact Rat.add_assoc ..
theorem z9u (u:V) {v w:V} (h:leV v w):leV (z0i 1 u v) (z0i 1 u w):=by
 simp only[times1];cases u<;>cases v<;>cases w<;>simp_all [leV]
 exact Rat.add_le_add_left.2 h
theorem v2j (v w:V):mulV v w=mulV w v:=by
 unfold mulV;by_cases h:v=V.fin 0\/w=V.fin 0
 ·rw[if_pos h,if_pos h.symm]
 rw[if_neg h,if_neg (fun e=>h e.symm)];cases v<;>cases w<;>simp;exact Rat.mul_comm ..
theorem z2a (v:V):mulV v (.fin 0)=.fin 0:=by unfold mulV;simp
theorem z2h (v:V):mulV (.fin 0) v=.fin 0:=by unfold mulV;simp
theorem z1j (x y:Rat):mulV (.fin x) (.fin y)=.fin (x*y):=by
 unfold mulV;split
 ·rename_i h
  rcases h with h|h<;>(injection h with h;subst h;simp)
 rfl
theorem z1x {y:Rat} (h:y≠0):mulV .inf (.fin y)=.inf:=by unfold mulV;simp[h]
theorem z2c {y:Rat} (h:y≠0):mulV (.fin y) .inf=.inf:=by unfold mulV;simp[h]
theorem z4c:mulV .inf .inf=.inf:=by unfold mulV;simp
theorem x6x {u v w:V} (l:u≠.low) (k:v≠.low) (i:w≠.low):mulV (mulV u v) w=mulV u (mulV v w):=by
 by_cases d:u=.fin 0
 ·subst d;simp only[z2h]
 by_cases c:v=.fin 0
 ·subst c;simp only[z2h,z2a]
 by_cases g:w=.fin 0
 ·subst g;simp only[z2a]
 have inj:∀ {x:Rat},V.fin x≠V.fin 0->x≠0:=fun h e=>h (by rw[e]);cases u with
 | low=>exact absurd rfl l
 | inf =>
  cases v with
  | low=>exact absurd rfl k
  | inf=>cases w with
   | low=>exact absurd rfl i
   | inf=>rfl
   | fin z=>rw[z4c,z1x (inj g),z4c]
  | fin y=>cases w with
   | low=>exact absurd rfl i
   | inf=>rw[z1x (inj c),z2c (inj c)]
   | fin z =>
    rw[z1x (inj c),z1x (inj g),z1j,z1x];intro e;rcases Rat.mul_eq_zero.1 e with e|e
    ·exact inj c e
    exact inj g e
 | fin x =>
  cases v with
  | low=>exact absurd rfl k
  | inf=>cases w with
   | low=>exact absurd rfl i
   | inf=>rw[z2c (inj d),z4c,z2c (inj d)]
   | fin z=>rw[z2c (inj d),z1x (inj g),z2c (inj d)]
  | fin y =>
   have j:x*y≠0:=by
    intro e;rcases Rat.mul_eq_zero.1 e with e|e
    ·exact inj d e
    exact inj c e
   cases w with
   | low=>exact absurd rfl i
   | inf=>rw[z1j,z2c j,z2c (inj c),z2c (inj d)]
   | fin z=>rw[z1j,z1j,z1j,z1j,Rat.mul_assoc]
theorem y3r {u v w:V} (m:u=.inf\/∃ q,u=.fin q/\0<=q) (j:v=.inf\/∃ q,v=.fin q/\0<=q) (i:w=.inf\/∃ q,w=.fin q/\0<=q) (h:leV v w):leV (mulV u v) (mulV u w):=by
 rcases m with rfl|⟨x,rfl,o⟩
 ·rcases i with rfl|⟨z,rfl,l⟩
  ·rw[z4c];cases mulV .inf v<;>simp[leV]
  rcases j with rfl|⟨y,rfl,k⟩
  ·exact h.elim
  by_cases g:y=0
  ·subst g;rw[z2a];by_cases c:z=0
   ·subst c;rw[z2a];exact z8w _
   rw[z1x c];trivial
  have c:z≠0:=by
   intro e;subst e;exact g (Rat.le_antisymm h k)
  rw[z1x g,z1x c];trivial
 by_cases d:x=0
 ·subst d;rw[z2h,z2h];exact z8w _
 rcases i with rfl|⟨z,rfl,l⟩
 ·rw[z2c d];cases mulV (.fin x) v<;>simp[leV]
 rcases j with rfl|⟨y,rfl,k⟩
 ·exact h.elim
 rw[z1j,z1j];exact Rat.mul_le_mul_of_nonneg_left h o
theorem x9f (v w:V):addV v w=addV w v:=by cases v<;>cases w<;>simp[addV];exact Rat.add_comm ..
theorem x7k (u v w:V):addV (addV u v) w=addV u (addV v w):=by cases u<;>cases v<;>cases w<;>simp[addV];exact Rat.add_assoc ..
theorem x8j {u v w:V} (i:u=.inf\/∃ q,u=.fin q/\0<=q) (l:v=.inf\/∃ q,v=.fin q/\0<=q) (k:w=.inf\/∃ q,w=.fin q/\0<=q) :
  mulV u (addV v w)=addV (mulV u v) (mulV u w):=by
 rcases l with rfl|⟨y,rfl,o⟩
 ·by_cases g:u=.fin 0
  ·subst g;rw[z2h,z2h,z2h];simp[addV,Rat.add_zero]
  have:mulV u .inf=.inf:=by
   rcases i with rfl|⟨x,rfl,_⟩
   ·exact z4c
   exact z2c (fun e=>g (by rw[e]))
  have h:addV .inf w=.inf:=by cases w<;>rfl
  rw[h,this];cases mulV u w<;>rfl
 rcases k with rfl|⟨z,rfl,j⟩
 ·by_cases g:u=.fin 0
  ·subst g;rw[z2h,z2h,z2h];simp[addV,Rat.add_zero]
  have:mulV u .inf=.inf:=by
   rcases i with rfl|⟨x,rfl,_⟩
   ·exact z4c
   exact z2c (fun e=>g (by rw[e]))
  have h:addV (.fin y) .inf=.inf:=rfl;rw[h,this];cases mulV u (.fin y)<;>rfl
 rcases i with rfl|⟨x,rfl,p⟩
 ·simp only[addV];by_cases c:y=0
  ·subst c;rw[z2a,Rat.zero_add];by_cases d:z=0
   ·subst d;rw[z2a];simp[Rat.add_zero]
   rw[z1x d]
  have:y+z≠0:=by
   intro e;have m:y<=0:=by
    have:y+0<=y+z:=Rat.add_le_add_left.2 j;rw[e,Rat.add_zero] at this;exact this
   exact c (Rat.le_antisymm m o)
  rw[z1x c,z1x this]
 simp only[addV];rw[z1j,z1j,z1j,Rat.mul_add]
end
section
def szV (k:Nat):V->Prop
 | .fin q=>szQ k q
 | _=>True
theorem szV.fit {k:Nat} {v:V} (h:szV k v) (c:k<=400):fitV v:=by
 cases v<;>first|trivial|exact v0m.2 (szQ.mono h c)
theorem x6c {k:Nat} (c:1<=k):szQ k 0:=by
 have:1<10 ^ k:=Nat.one_lt_pow (by omega) (by omega);exact⟨by show (0:Int).natAbs<_;simp;omega,by show 1<_;exact this⟩
theorem u1n {k:Nat} (c:1<=k):szQ k 1:=by
 have:1<10 ^ k:=Nat.one_lt_pow (by omega) (by omega);exact⟨by show (1:Int).natAbs<_;simpa using this,by show 1<_;exact this⟩
theorem v8c (d:Int) {k:Nat} (c:1<=k):szV k (zeroV d):=by unfold zeroV;split;trivial;exact x6c c
theorem u1g (d:Int) {k:Nat} (c:1<=k):szV k (oneV d):=by unfold oneV;split;exact x6c c;exact u1n c
theorem v4s {k:Int} (c:k=1\/k=2\/k=3):okV k (zeroV k):=by
 unfold zeroV;split
 ·rename_i h;subst h;exact⟨by omega,by omega⟩
 right;exact⟨by omega,Rat.le_refl⟩
theorem v1j {k:Int} (c:k=1\/k=2\/k=3):okV k (oneV k):=by
 unfold oneV;split
 ·rename_i h;exact .inl h
 right;exact⟨by omega,by decide⟩
theorem z7j {k:Int} (c:k=1\/k=2\/k=3):okV k .inf:=⟨by omega,by omega⟩
theorem y0k {k:Int} {v w:V} (d:okV k v) (g:okV k w):okV k (z1p k v w):=by
 have c:=z4d d;unfold z1p
 split
 ·rename_i j
  rcases z2i d (by omega) with rfl|⟨x,rfl,i⟩
  ·exact z7j c
  rcases z2i g (by omega) with rfl|⟨y,rfl,h⟩
  ·exact z7j c
  exact .inr ⟨by omega,Rat.add_nonneg i h⟩
 split<;>split<;>assumption
theorem z6r {k:Int} {v w:V} (d:okV k v) (g:okV k w):okV k (z0i k v w):=by
 have h:=z4d d;by_cases c:k=1
 ·subst c;rw[times1];cases v<;>cases w<;>simp[okV]
 rw[times23 c (z0r d c) (z0r g c)];unfold mulV
 split
 ·exact .inr ⟨by omega,Rat.le_refl⟩
 rcases z2i d c with rfl|⟨x,rfl,j⟩
 ·exact z7j h
 rcases z2i g c with rfl|⟨y,rfl,i⟩
 ·exact z7j h
 exact .inr ⟨by omega,Rat.mul_nonneg j i⟩
theorem y6u {k:Int} {v w:V} (c:okV k v):z1p k v w=z1p k w v:=by
 rcases z4d c with rfl|rfl|rfl
 ·rw[z8a,z8a,x1v]
 ·rw[z6g,z6g,x9f]
 rw[z7z,z7z,x0y]
theorem z9x {k:Int} {u v w:V} (c:okV k v):z1p k (z1p k u v) w=z1p k u (z1p k v w):=by
 rcases z4d c with rfl|rfl|rfl
 ·simp only[z8a];rw[x7p]
 ·simp only[z6g];rw[x7k]
 simp only[z7z];rw[x7m]
theorem y4z {k:Int} {v w:V} (d:okV k v) (g:okV k w):z0i k v w=z0i k w v:=by
 by_cases c:k=1
 ·subst c;exact y3u v w
 rw[times23 c (z0r d c) (z0r g c),times23 c (z0r g c) (z0r d c),v2j]
theorem x1e {k:Int} {u v w:V} (h:okV k u) (d:okV k v) (g:okV k w):z0i k (z0i k u v) w=z0i k u (z0i k v w):=by
 by_cases c:k=1
 ·subst c;exact x1k u v w
 rw[times23 c (z0r (z6r h d) c) (z0r g c),times23 c (z0r h c) (z0r (z6r d g) c),times23 c (z0r h c) (z0r d c),times23 c (z0r d c) (z0r g c)];exact x6x (z0r h c) (z0r d c) (z0r g c)
theorem x3h {k:Int} {u v w:V} (d:okV k u) (i:okV k v) (g:okV k w) (h:leV v w):leV (z0i k u v) (z0i k u w):=by
 by_cases c:k=1
 ·subst c;exact z9u u h
 rw[times23 c (z0r d c) (z0r i c),times23 c (z0r d c) (z0r g c)];exact y3r (z2i d c) (z2i i c) (z2i g c) h
theorem x2g {k:Int} {u v w:V} (d:okV k u) (i:okV k v) (g:okV k w):z0i k u (z1p k v w)=z1p k (z0i k u v) (z0i k u w):=by
 have j:∀ x y,(x=v\/x=w)->(y=v\/y=w)->leV x y->leV (z0i k u x) (z0i k u y):=by
  intro x y m l h;refine x3h d ?_ ?_ h
  ·rcases m with rfl|rfl<;>assumption
  rcases l with rfl|rfl<;>assumption
 rcases z4d d with rfl|rfl|rfl
 ·rw[z8a,z8a];exact v5p (f:=z0i 1 u) v w j
 ·have c:(2:Int)≠1:=by decide
  rw[times23 c (z0r d c) (z0r (y0k i g) c),times23 c (z0r d c) (z0r i c),times23 c (z0r d c) (z0r g c),z6g,z6g];exact x8j (z2i d c) (z2i i c) (z2i g c)
 rw[z7z,z7z];exact v5c (f:=z0i 3 u) v w j
theorem x7a {k:Int} {v:V} (c:okV k v):z1p k v (zeroV k)=v:=by
 rcases z4d c with rfl|rfl|rfl
 ·rw[z8a];exact z3x (by cases v<;>trivial)
 ·rw[z6g];show addV v (.fin 0)=v
  rcases z2i c (by decide) with rfl|⟨x,rfl,d⟩
  ·rfl
  simp[addV,Rat.add_zero]
 rw[z7z];show maxV v (.fin 0)=v
 rcases z2i c (by decide) with rfl|⟨x,rfl,d⟩
 ·exact z3p trivial
 exact z3p d
theorem z8i {k:Int} {v:V} (d:okV k v):z0i k v (oneV k)=v:=by
 by_cases c:k=1
 ·subst c;rw[times1];cases v<;>simp[oneV,Rat.add_zero]
 rw[times23 c (z0r d c) (by simp[oneV,c])];have:oneV k=.fin 1:=by simp[oneV,c]
 rw[this]
 rcases z2i d c with rfl|⟨x,rfl,g⟩
 ·exact z1x (by decide)
 rw[z1j,Rat.mul_one]
theorem x3d (k:Int) (v:V):z0i k v (zeroV k)=zeroV k:=by unfold z0i;rw[if_pos (.inr rfl)]
theorem v6d {k:Int} (c:k=1\/k=2\/k=3):z0z k=vtxt (zeroV k):=by
 have:z3v k=true:=by unfold z3v;rcases c with rfl|rfl|rfl<;>rfl
 unfold z0z;rw[this];rfl
theorem u3i {k:Int} (c:k=1\/k=2\/k=3):oneF k=vtxt (oneV k):=by
 have:z3v k=true:=by unfold z3v;rcases c with rfl|rfl|rfl<;>rfl
 unfold oneF;rw[this];rfl
theorem y6g {k:Int} {a:ByteArray} (h:z0q k a=true):∃ v,vprs k a=some v:=by
 unfold z0q at h;exact Option.isSome_iff_exists.1 h
structure Laws (k:Int) (a b c ab bc l m o r d x:ByteArray):Prop where
 p1:z1k k a b=(ab,0)
 p2:z1k k b a=(ab,0)
 p3:z1k k b c=(bc,0)
 p4:z1k k ab c=(l,0)
 p5:z1k k a bc=(l,0)
 t1:z0g k a b=(m,0)
 t2:z0g k b a=(m,0)
 t3:z0g k b c=(o,0)
 t4:z0g k m c=(r,0)
 t5:z0g k a o=(r,0)
 q1:z0g k a bc=(d,0)
 q2:z0g k a c=(x,0)
 q3:z1k k m x=(d,0)
 q4:z1k k a (z0z k)=(a,0)
 q5:z0g k a (oneF k)=(a,0)
 q6:z0g k a (z0z k)=(z0z k,0)
theorem y3a {k:Int} {v:V} (i:okV k v):okV k (z1z k v)/\z1p k (oneV k) (z0i k v (z1z k v))=z1z k v:=by
 rcases z4d i with rfl|rfl|rfl
 ·have j:oneV 1=.fin 0:=rfl;rw[j,z8a];have g:z1z 1 v=if 0<=cmpV v (.fin 0) then .fin 0 else .low:=rfl
  rw[g]
  split
  ·rename_i h;refine⟨.inl rfl,?_⟩;have m:z0i 1 v (.fin 0)=v:=z8i (k:=1) i;rw[m];have:=y0z v (.fin 0);exact z3x ((z5a _ _).1 (by omega))
  rename_i h;refine⟨rfl,?_⟩;have:z0i 1 v .low=.low:=by
   rw[times1];cases v with
   | inf=>simp[cmpV] at h
   | low=>rfl
   | fin q=>rfl
  rw[this];exact z4g trivial
 ·have c:(2:Int)≠1:=by decide
  have j:oneV 2=.fin 1:=rfl;rw[j,z6g]
  rcases z2i i c with rfl|⟨x,rfl,z⟩
  ·have g:z1z 2 .inf=.inf:=rfl;rw[g,times23 c (by simp) (by simp),z4c];exact⟨z7j (.inr (.inl rfl)),rfl⟩
  have g:z1z 2 (.fin x)=if 0<=cmpQ x 1 then .inf else .fin (1 / (1-x)):=rfl
  rw[g]
  split
  ·rename_i h;refine⟨z7j (.inr (.inl rfl)),?_⟩;have d:x≠0:=by intro e;subst e;exact absurd h (by decide +kernel)
   rw[times23 c (by simp) (by simp),z2c d];rfl
  rename_i h;have l:x<1:=by rcases z1n x 1 with ⟨o,e⟩|⟨o,e⟩|⟨o,e⟩<;>first|exact o|(rw[e] at h;exact absurd h (by decide))
  have u:0<1-x:=(Rat.lt_iff_sub_pos x 1).1 l;have p:1-x≠0:=Rat.ne_of_gt u;refine⟨.inr ⟨.inl rfl,?_⟩,?_⟩
  ·rw[Rat.div_def,Rat.one_mul];exact Rat.le_of_lt (Rat.inv_pos.2 u)
  rw[times23 c (by simp) (by simp),z1j];show V.fin (1+x*(1 / (1-x)))=V.fin (1 / (1-x))
  congr 1
  rw[Rat.div_def,Rat.one_mul];have hi:=Rat.mul_inv_cancel (1-x) p;have s:(1-x)*(1-x)⁻¹+x*(1-x)⁻¹=(1-x)⁻¹:=by
   rw[<- Rat.add_mul,Rat.sub_add_cancel,Rat.one_mul]
  rw[hi] at s;exact s
 have c:(3:Int)≠1:=by decide
 have j:oneV 3=.fin 1:=rfl;rw[j,z7z];have g:z1z 3 v=if cmpV v (.fin 1)<=0 then .fin 1 else .inf:=rfl
 rw[g]
 split
 ·rename_i h;refine⟨.inr ⟨.inr rfl,by decide⟩,?_⟩;have m:z0i 3 v (.fin 1)=v:=z8i (k:=3) i;rw[m];exact z3p ((z5a _ _).1 h)
 rename_i h;refine⟨z7j (.inr (.inr rfl)),?_⟩;rw[times23 c (z0r i c) (by simp)]
 rcases z2i i c with rfl|⟨x,rfl,z⟩
 ·rw[z4c];exact z3m trivial
 have d:x≠0:=by intro e;subst e;exact absurd h (by decide +kernel)
 rw[z2c d];exact z3m trivial
structure Order (k:Int) (a b c s x y:ByteArray) (p:Int):Prop where
 pe:y5c k a b=p
 lo:-1<=p
 hi:p<=1
 sw:y5c k b a=-p
 eq:p=0↔a=b
 tr:p<=0->y5c k b c<=0->y5c k a c<=0
 se:z1k k a b=(s,0)
 s1:k≠2->p<=0->s=a
 s2:k≠2->0<p->s=b
 xe:z0g k a c=(x,0)
 ye:z0g k b c=(y,0)
 xy:p<=0->y5c k x y<=0
theorem u2x {k:Int} {v:V} (h:wtV k v):∃ q,v=.fin q/\(k=1\/((k=2\/k=3)/\0<q)):=by cases v<;>first|exact h.elim|exact⟨_,rfl,h⟩
theorem u5k {k:Int} {v:V} (h:wtV k v):okV k v:=by
 obtain⟨q,rfl,h⟩:=u2x h
 rcases h with h|⟨h,c⟩
 ·exact .inl h
 exact .inr ⟨h,Rat.le_of_lt c⟩
theorem x4d {k:Int} {a:ByteArray} (h:z0m k a=true):∃ v,rdV a=some v/\wtV k v:=by
 unfold z0m at h;cases c:rdV a with
 | none=>rw[c] at h;simp at h
 | some v=>rw[c] at h;exact⟨v,rfl,of_decide_eq_true h⟩
end
section
class CSR (R:Type) where
 add:R->R->R
 mul:R->R->R
 zero:R
 one:R
 star:R->R
 add_comm:∀ a b,add a b=add b a
 add_assoc:∀ a b c,add (add a b) c=add a (add b c)
 add_zero:∀ a,add a zero=a
 mul_comm:∀ a b,mul a b=mul b a
 mul_assoc:∀ a b c,mul (mul a b) c=mul a (mul b c)
 mul_one:∀ a,mul a one=a
 mul_zero:∀ a,mul a zero=zero
 mul_add:∀ a b c,mul a (add b c)=add (mul a b) (mul a c)
 star_eq:∀ a,star a=add one (mul a (star a))
 park:∀ a b x c,x=add (add (mul a x) b) c->∃ d,x=add (mul (star a) b) d
 anti:∀ a b c d,b=add a c->a=add b d->a=b
namespace CSR
section
variable {R:Type} [CSR R]
instance instAdd:Add R:=⟨add⟩
instance instMul:Mul R:=⟨mul⟩
theorem aC (a b:R):a+b=b+a:=add_comm a b
theorem aA (a b c:R):a+b+c=a+(b+c):=add_assoc a b c
theorem aL (a b c:R):a+(b+c)=b+(a+c):=by rw[<- aA,aC a b,aA]
theorem a0 (a:R):a+zero=a:=add_zero a
theorem z0 (a:R):zero+a=a:=by rw[aC,a0]
theorem mC (a b:R):a*b=b*a:=mul_comm a b
theorem mA (a b c:R):a*b*c=a*(b*c):=mul_assoc a b c
theorem m1 (a:R):a*one=a:=mul_one a
theorem o1 (a:R):one*a=a:=by rw[mC,m1]
theorem m0 (a:R):a*zero=zero:=mul_zero a
theorem zm (a:R):zero*a=zero:=by rw[mC,m0]
theorem mD (a b c:R):a*(b+c)=a*b+a*c:=mul_add a b c
theorem dM (a b c:R):(a+b)*c=a*c+b*c:=by rw[mC,mD,mC c a,mC c b]
theorem sE (a:R):star a=one+a*star a:=star_eq a
def le (a b:R):Prop:=∃ c,b=a+c
theorem le_refl (a:R):le a a:=⟨zero,(a0 a).symm⟩
theorem le_add (a b:R):le a (a+b):=⟨b,rfl⟩
theorem le_trans {a b c:R} (h:le a b) (k:le b c):le a c:=by
 obtain⟨x,rfl⟩:=h;obtain⟨y,rfl⟩:=k;exact⟨x+y,aA ..⟩
theorem le_plus {a b c d:R} (h:le a b) (k:le c d):le (a+c) (b+d):=by
 obtain⟨x,rfl⟩:=h;obtain⟨y,rfl⟩:=k;exact⟨x+y,by rw[aA,aA,aL x c y]⟩
theorem le_times {a b:R} (c:R) (h:le a b):le (c*a) (c*b):=by
 obtain⟨x,rfl⟩:=h;exact⟨c*x,mD ..⟩
theorem le_anti {a b:R} (h:le a b) (k:le b a):a=b:=by
 obtain⟨x,d⟩:=h;obtain⟨y,c⟩:=k;exact anti a b x y d c
def sum (f:Nat->R):Nat->R
 | 0=>zero
 | n+1=>sum f n+f n
theorem sum_congr {f g:Nat->R} {n:Nat} (h:∀ i,i<n->f i=g i):sum f n=sum g n:=by
 induction n with
 | zero=>rfl
 | succ n ih=>simp only[sum];rw[ih (fun i hi=>h i (by omega)),h n (by omega)]
theorem sum_zero (n:Nat):sum (fun _=>(zero:R)) n=zero:=by
 induction n with
 | zero=>rfl
 | succ n ih=>simp only[sum];rw[ih,a0]
theorem sum_add (f g:Nat->R) (n:Nat):sum (fun i=>f i+g i) n=sum f n+sum g n:=by
 induction n with
 | zero=>exact(a0 _).symm
 | succ n ih=>simp only[sum];rw[ih,aA,aA,aL (sum g n)]
theorem mul_sum (a:R) (f:Nat->R) (n:Nat):a*sum f n=sum (fun i=>a*f i) n:=by
 induction n with
 | zero=>exact m0 a
 | succ n ih=>simp only[sum];rw[mD,ih]
theorem sum_mul (a:R) (f:Nat->R) (n:Nat):sum f n*a=sum (fun i=>f i*a) n:=by
 rw[mC,mul_sum];exact sum_congr fun i _=>mC _ _
theorem sum_pick (f:Nat->R) {n p:Nat} (c:p<n):sum f n=f p+sum (fun i=>if i=p then zero else f i) n:=by
 induction n with
 | zero=>omega
 | succ n ih =>
  simp only[sum];by_cases e:p=n
  ·subst e;rw[if_pos rfl,a0,sum_congr (g:=fun i=>if i=p then zero else f i) (fun i hi=>by rw[if_neg (by omega)]),aC]
  rw[if_neg (by omega),ih (by omega),aA]
theorem sum_single (f:Nat->R) {n p:Nat} (c:p<n) (h:∀ i,i<n->i≠p->f i=zero):sum f n=f p:=by
 rw[sum_pick f c,sum_congr (g:=fun _=>zero) (fun i hi=>by split;rfl;exact h i hi (by assumption)),sum_zero,a0]
theorem sum_le {f g:Nat->R} {n:Nat} (h:∀ i,i<n->le (f i) (g i)):le (sum f n) (sum g n):=by
 induction n with
 | zero=>exact le_refl _
 | succ n ih=>exact le_plus (ih fun i hi=>h i (by omega)) (h n (by omega))
def elim (p:Nat) (M:Nat->Nat->R):Nat->Nat->R:=fun i j=>M i j+M i p*star (M p p)*M p j
def elims (M:Nat->Nat->R):Nat->Nat->Nat->R
 | 0=>M
 | p+1=>elim p (elims M p)
def eye (i j:Nat):R:=if i=j then one else zero
def starM (M:Nat->Nat->R) (n:Nat):Nat->Nat->R:=fun i j=>elims M n i j+eye i j
theorem elims_first (M:Nat->Nat->R) (p i j:Nat):elims M p i j=M i j+sum (fun k=>M i k*elims M p k j) p:=by
 induction p generalizing j with
 | zero=>exact(a0 _).symm
 | succ p ih =>
  have c:=ih;generalize hNN:elims M p=N at c;have g:elims M (p+1)=elim p N:=by rw[<- hNN];rfl
  rw[g];simp only[sum];have h:sum (fun k=>M i k*elim p N k j) p=sum (fun k=>M i k*N k j) p+sum (fun k=>M i k*N k p) p*(star (N p p)*N p j):=by
   rw[sum_mul,<- sum_add];refine sum_congr fun k _=>?_;show M i k*(N k j+N k p*star (N p p)*N p j)=_;rw[mD,mA,mA]
  have d:M i p*elim p N p j=M i p*(star (N p p)*N p j):=by
   show M i p*(N p j+N p p*star (N p p)*N p j)=_
   congr 1
   conv=>rhs;rw[sE (N p p)]
   rw[dM,o1]
  rw[h,d];show N i j+N i p*star (N p p)*N p j=_;rw[aA,<- dM,<- aA,aC (sum _ _) (M i p),<- c j,<- c p,mA]
theorem starM_left (M:Nat->Nat->R) {n i j:Nat} (d:j<n):starM M n i j=eye i j+sum (fun k=>M i k*starM M n k j) n:=by
 have h:sum (fun k=>M i k*starM M n k j) n=sum (fun k=>M i k*elims M n k j) n+M i j:=by
  show sum (fun k=>M i k*(elims M n k j+eye k j)) n=_;rw[sum_congr (g:=fun k=>M i k*elims M n k j+M i k*eye k j) (fun k _=>mD ..),sum_add]
  congr 1
  rw[sum_single _ d (fun k _ c=>by show M i k*eye k j=_;rw[eye,if_neg c,m0])];show M i j*eye j j=_;rw[eye,if_pos rfl,m1]
 rw[h,aC (sum _ _),<- elims_first,aC];rfl
theorem elims_congr {M M':Nat->Nat->R} {n:Nat} (h:∀ i j,i<n->j<n->M i j=M' i j) {p:Nat} (d:p<=n):∀ i j,i<n->j<n->elims M p i j=elims M' p i j:=by
 induction p with
 | zero=>exact h
 | succ p ih =>
  intro i j hi c;show elim p _ i j=elim p _ i j;unfold elim;rw[ih (by omega) i j hi c,ih (by omega) i p hi (by omega),ih (by omega) p p (by omega) (by omega),ih (by omega) p j (by omega) c]
theorem starM_congr {M M':Nat->Nat->R} {n:Nat} (h:∀ i j,i<n->j<n->M i j=M' i j):∀ i j,i<n->j<n->starM M n i j=starM M' n i j:=by
 intro i j hi c;unfold starM;rw[elims_congr h (Nat.le_refl n) i j hi c]
def sumFrom (f:Nat->R) (p n:Nat):R:=sum (fun k=>if k<p then zero else f k) n
theorem sumFrom_zero (f:Nat->R) (n:Nat):sumFrom f 0 n=sum f n:=sum_congr fun k _=>by rw[if_neg (by omega)]
theorem sumFrom_end (f:Nat->R) (n:Nat):sumFrom f n n=zero:=by
 rw[sumFrom,sum_congr (g:=fun _=>zero) (fun k c=>by rw[if_pos c]),sum_zero]
theorem sumFrom_step (f:Nat->R) {p n:Nat} (g:p<n):sumFrom f p n=f p+sumFrom f (p+1) n:=by
 unfold sumFrom;rw[sum_pick _ g,if_neg (by omega)]
 congr 1
 exact sum_congr fun k _=>by
  by_cases d:k=p
  ·rw[if_pos d,if_pos (by omega)]
  rw[if_neg d];by_cases c:k<p
  ·rw[if_pos c,if_pos (by omega)]
  rw[if_neg c,if_neg (by omega)]
end
end CSR
end
section
def KK:Type:={ k:Int // k=1\/k=2\/k=3 }
def RK (k:KK):Type:={ v:V // okV k.1 v }
theorem y6z {k:Int} {u c:V} (d:okV k u) (g:okV k c):if k=1 then leV (z1p k u c) u else leV u (z1p k u c):=by
 rcases z4d d with rfl|rfl|rfl
 ·rw[if_pos rfl,z8a];unfold minV;split
  ·exact z8w _
  rcases z2d u c with h|h
  ·contradiction
  exact h
 ·rw[if_neg (by decide),z6g]
  rcases z2i d (by decide) with rfl|⟨x,rfl,j⟩
  ·exact trivial
  rcases z2i g (by decide) with rfl|⟨y,rfl,i⟩
  ·exact trivial
  show x<=x+y;have:=Rat.add_le_add_left (c:=x).2 i
  rwa [Rat.add_zero] at this
 rw[if_neg (by decide),z7z];unfold maxV;split
 ·exact z8w _
 rcases z2d u c with h|h
 ·exact h
 contradiction
theorem v8r {k:Int} {u v:V} (g:okV k u) (d:okV k v) (h:if k=1 then leV v u else leV u v):∃ c,okV k c/\v=z1p k u c:=by
 rcases z4d g with rfl|rfl|rfl
 ·rw[if_pos rfl] at h;exact⟨v,d,by rw[z8a,z4g h]⟩
 ·rw[if_neg (by decide)] at h
  rcases z2i g (by decide) with rfl|⟨x,rfl,j⟩
  ·refine⟨.inf,z7j (.inr (.inl rfl)),?_⟩
   rcases z2i d (by decide) with rfl|⟨y,rfl,i⟩
   ·rfl
   exact h.elim
  rcases z2i d (by decide) with rfl|⟨y,rfl,i⟩
  ·exact⟨.inf,z7j (.inr (.inl rfl)),by rw[z6g];rfl⟩
  refine⟨.fin (y-x),.inr ⟨.inl rfl,(Rat.le_iff_sub_nonneg x y).1 h⟩,?_⟩;rw[z6g];show V.fin y=V.fin (x+(y-x));congr 1;rw[Rat.add_comm,Rat.sub_add_cancel]
 rw[if_neg (by decide)] at h;exact⟨v,d,by rw[z7z,z3m h]⟩
theorem x4v {k:Int} {a x b c:V} (j:okV k a) (o:okV k x) (hb:okV k b) (g:okV k c) (h:x=z1p k (z1p k (z0i k a x) b) c) :
  (if k=1 then leV x (z0i k a x) else leV (z0i k a x) x)/\(if k=1 then leV x b else leV b x):=by
 have d:okV k (z0i k a x):=z6r j o;have i:=y6z d (y0k hb g);have bx:=y6z hb (y0k d g);have m:z1p k (z0i k a x) (z1p k b c)=x:=by rw[<- z9x hb,<- h]
 have l:z1p k b (z1p k (z0i k a x) c)=x:=by rw[<- z9x d,y6u hb,<- h]
 rw[m] at i;rw[l] at bx;exact⟨i,bx⟩
theorem y4j {k:Int} {v:V} (c:okV k v) (d:k=1\/k=2\/k=3):z0i k (oneV k) v=v:=by
 rw[y4z (v1j d) c];exact z8i c
theorem park1 {a x b:V} (u:okV 1 a) (z:okV 1 x) (hb:okV 1 b) (h:leV x (z0i 1 a x)) (g:leV x b):leV x (z0i 1 (z1z 1 a) b):=by
 have o:z1z 1 a=if 0<=cmpV a (.fin 0) then .fin 0 else .low:=rfl
 rw[o]
 split
 ·have:z0i 1 (.fin 0) b=b:=y4j (k:=1) hb (.inl rfl);rw[this];exact g
 rename_i p;have d:leV a (.fin 0):=(z5a _ _).1 (by omega);cases b with
 | inf=>cases x<;>trivial
 | low=>rw[times1];exact g
 | fin q =>
  rw[times1];cases x with
  | low=>trivial
  | inf=>exact g.elim
  | fin y =>
   exfalso
   rw[times1] at h;cases a with
   | inf=>exact d.elim
   | low=>exact h.elim
   | fin r =>
    have m:r<=0:=d;have i:r≠0:=by intro e;subst e;exact p (by decide +kernel)
    have s:y<=r+y:=h;have l:r<0:=Rat.lt_of_le_of_ne m i;have j:=Rat.add_lt_add_right (c:=y).2 l;rw[Rat.zero_add] at j;exact absurd s (Rat.not_le.2 j)
theorem park3 {a x b:V} (o:okV 3 a) (s:okV 3 x) (hb:okV 3 b) (g:leV (z0i 3 a x) x) (j:leV b x):leV (z0i 3 (z1z 3 a) b) x:=by
 have B:z1z 3 a=if cmpV a (.fin 1)<=0 then .fin 1 else .inf:=rfl
 have c:(3:Int)≠1:=by decide
 rw[B]
 split
 ·have:z0i 3 (.fin 1) b=b:=y4j (k:=3) hb (.inr (.inr rfl));rw[this];exact j
 rename_i C;rw[times23 c (by simp) (z0r hb c)];rw[times23 c (z0r o c) (z0r s c)] at g
 rcases z2i s c with rfl|⟨y,rfl,p⟩
 ·cases (mulV .inf b)<;>trivial
 rcases z2i hb c with rfl|⟨q,rfl,z⟩
 ·exact j.elim
 by_cases i:q=0
 ·subst i;rw[z2a];exact p
 exfalso
 have d:q<=y:=j;have m:0<q:=Rat.lt_of_le_of_ne z (fun e=>i e.symm);have h:0<y:=by
  refine Rat.lt_of_le_of_ne p (fun e=>?_);rw[<- e] at d;exact absurd d (Rat.not_le.2 m)
 have l:y≠0:=Rat.ne_of_gt h
 rcases z2i o c with rfl|⟨r,rfl,D⟩
 ·rw[z1x l] at g;exact g.elim
 rw[z1j] at g;have A:r*y<=1*y:=by rw[Rat.one_mul];exact g
 have u:r<=1:=Rat.le_of_mul_le_mul_right A h;exact C ((z5a _ _).2 u)
theorem park2 {a x b:V} (l:okV 2 a) (A:okV 2 x) (hb:okV 2 b) (h:leV (addV (z0i 2 a x) b) x):leV (z0i 2 (z1z 2 a) b) x:=by
 have n2:(2:Int)≠1:=by decide
 have p:okV 2 (z1z 2 a):=(y3a l).1;rw[times23 n2 (z0r p n2) (z0r hb n2)];rw[times23 n2 (z0r l n2) (z0r A n2)] at h
 rcases z2i A n2 with rfl|⟨y,rfl,z⟩
 ·cases (mulV (z1z 2 a) b)<;>trivial
 rcases z2i hb n2 with rfl|⟨s,rfl,C⟩
 ·have:addV (mulV a (.fin y)) .inf=.inf:=by cases (mulV a (.fin y))<;>rfl
  rw[this] at h;exact h.elim
 rcases z2i l n2 with rfl|⟨r,rfl,G⟩
 ·have e:z1z 2 .inf=.inf:=rfl;rw[e];by_cases j:y=0
  ·subst j;rw[z2a] at h;have k:(0:Rat)+s<=0:=h;rw[Rat.zero_add] at k;have:s=0:=Rat.le_antisymm k C;subst this;rw[z2a];exact Rat.le_refl
  rw[z1x j] at h;exact h.elim
 rw[z1j] at h;have k:r*y+s<=y:=h;have e:z1z 2 (.fin r)=if 0<=cmpQ r 1 then .inf else .fin (1 / (1-r)):=rfl
 rw[e]
 split
 ·rename_i i;have m:1<=r:=by
   rcases z1n r 1 with ⟨d,g⟩|⟨d,g⟩|⟨d,g⟩
   ·rw[g] at i;exact absurd i (by decide)
   ·rw[d];exact Rat.le_refl
   exact Rat.le_of_lt d
  have B:1*y<=r*y:=Rat.mul_le_mul_of_nonneg_right m z;rw[Rat.one_mul] at B;have E:r*y+s<=r*y+0:=by rw[Rat.add_zero];exact Rat.le_trans k B
  have F:s<=0:=Rat.add_le_add_left.1 E;have:s=0:=Rat.le_antisymm F C;subst this;rw[z2a];exact z
 rename_i i;have o:r<1:=by
  rcases z1n r 1 with ⟨d,g⟩|⟨d,g⟩|⟨d,g⟩
  ·exact d
  ·rw[g] at i;exact absurd (by decide) i
  rw[g] at i;exact absurd (by decide) i
 have D:0<1-r:=(Rat.lt_iff_sub_pos r 1).1 o;have u:1-r≠0:=Rat.ne_of_gt D;rw[z1j];show 1 / (1-r)*s<=y;refine Rat.le_of_mul_le_mul_left (c:=1-r) ?_ D;rw[<- Rat.mul_assoc,Rat.div_def,Rat.one_mul,Rat.mul_inv_cancel _ u,Rat.one_mul];rw[Rat.sub_eq_add_neg,Rat.add_mul,Rat.one_mul,Rat.neg_mul,<- Rat.sub_eq_add_neg];refine Rat.le_sub_iff.2 ?_;rw[Rat.add_comm];exact k
theorem v4y {k:Int} {a x b c:V} (g:okV k a) (i:okV k x) (hb:okV k b) (m:okV k c) (h:x=z1p k (z1p k (z0i k a x) b) c) :
  ∃ d,okV k d/\x=z1p k (z0i k (z1z k a) b) d:=by
 have o:=(y3a g).1;refine v8r (z6r o hb) i ?_
 rcases z4d g with rfl|rfl|rfl
 ·obtain⟨l,j⟩:=x4v g i hb m h;rw[if_pos rfl] at l j ⊢;exact park1 g i hb l j
 ·rw[if_neg (by decide)];have:=y6z (y0k (z6r g i) hb) m;rw[<- h,if_neg (by decide),z6g] at this;exact park2 g i hb this
 obtain⟨l,j⟩:=x4v g i hb m h;rw[if_neg (by decide)] at l j ⊢;exact park3 g i hb l j
theorem v6e {k:Int} {a b c d:V} (h:okV k a) (hb:okV k b) (i:okV k c) (j:okV k d) (m:b=z1p k a c) (l:a=z1p k b d):a=b:=by
 have x:=y6z h i;have y:=y6z hb j;rw[<- m] at x;rw[<- l] at y;by_cases g:k=1
 ·rw[if_pos g] at x y;exact z4w y x
 rw[if_neg g] at x y;exact z4w x y
namespace RK
variable {k:KK}
theorem ext {a b:RK k} (h:a.1=b.1):a=b:=Subtype.ext h
instance csr:CSR (RK k) where
 add a b:=⟨z1p k.1 a.1 b.1,y0k a.2 b.2⟩
 mul a b:=⟨z0i k.1 a.1 b.1,z6r a.2 b.2⟩
 zero:=⟨zeroV k.1,v4s k.2⟩
 one:=⟨oneV k.1,v1j k.2⟩
 star a:=⟨z1z k.1 a.1,(y3a a.2).1⟩
 add_comm a _:=ext (y6u a.2)
 add_assoc _ b _:=ext (z9x b.2)
 add_zero a:=ext (x7a a.2)
 mul_comm a b:=ext (y4z a.2 b.2)
 mul_assoc a b c:=ext (x1e a.2 b.2 c.2)
 mul_one a:=ext (z8i a.2)
 mul_zero a:=ext (x3d k.1 a.1)
 mul_add a b c:=ext (x2g a.2 b.2 c.2)
 star_eq a:=ext (y3a a.2).2.symm
 park a b x c h:=by
  obtain⟨d,hd,e⟩:=v4y a.2 x.2 b.2 c.2 (congrArg Subtype.val h);exact⟨⟨d,hd⟩,ext e⟩
 anti a b c d h1 h2:=ext (v6e a.2 b.2 c.2 d.2 (congrArg Subtype.val h1) (congrArg Subtype.val h2))
end RK
end
end Go.Proofs.YteappjogmnogcaaGreatDoor
