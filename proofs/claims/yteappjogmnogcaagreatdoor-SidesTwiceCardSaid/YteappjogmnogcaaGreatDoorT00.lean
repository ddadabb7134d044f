/- Parts of a proof: Str Com RatL ML C1. -/
import Derived.Lib.Hide
import Derived.Lib.ItoaNum
import Derived.Lib.ItoaLen
import Derived.Test.YteappjogmnogcaaGreatDoorProg
import Derived.WalkKit
import Derived.WalkSpells
import Derived.WalkLawsBesides
import Derived.Lib.Strings
namespace Go.Proofs.YteappjogmnogcaaGreatDoor
set_option maxRecDepth 100000
set_option linter.unusedSimpArgs false
set_option linter.unusedVariables false
set_option linter.unusedSectionVars false
set_option maxHeartbeats 16000000
open Go Tryz
theorem qh {p : Prop} (h : p) : RowKit.Hid p := h
theorem exq {α : Sort _} (e : α) : ∃ x, x = e := ⟨e, rfl⟩
theorem nlr {n : Nat} : n ≤ n := Nat.le_refl n
theorem blr {B : Nat} {w : World} : RowKit.Below B w w := RowKit.Below.refl B w
theorem nxa {P : Program} {f : FuncId} {ar : Array Value} {w : World} {R : Ending} {Q : Ending → World → Prop} (h : Calls P f ar w (fun e w' => e = R ∧ RowKit.Below w.heap.size w w')) (k : ∀ w', RowKit.Hid (RowKit.Below w.heap.size w w') → Q R w') : Calls P f ar w Q :=
  h.mono fun e w' he => by rw [he.1]; exact k w' he.2
theorem nxb {P : Program} {f : FuncId} {ar : Array Value} {w0 w : World} {R : Ending} {Q : Ending → World → Prop} (h : Calls P f ar w (fun e w' => e = R ∧ RowKit.Below w.heap.size w w')) (B : RowKit.Hid (RowKit.Below w0.heap.size w0 w)) (k : ∀ w', RowKit.Hid (RowKit.Below w0.heap.size w0 w') → Q R w') : Calls P f ar w Q :=
  h.mono fun e w' he => by rw [he.1]; exact k w' (RowKit.Below.trans B (he.2.mono (RowKit.Below.size B)))
section
def dgt (c:UInt8):Bool:=decide (48<=c.toNat)&&decide (c.toNat<=57)
def dgts (l:List UInt8):Bool:=l.all dgt
def z1t (l:List UInt8):Bool :=
 decide (1<=l.length)&&decide (l.length<=1000)&&(decide (l.length=1)||decide (l.headD 0≠48))&&dgts l
def bts (s:ByteArray):List UInt8:=s.data.toList
def str (l:List UInt8):ByteArray:=⟨l.toArray⟩
theorem z2u (l:List UInt8):bts (str l)=l:=by simp[bts,str]
theorem y4q (s:ByteArray):str (bts s)=s:=by simp[bts,str]
theorem z1f (l:List UInt8):(str l).size=l.length:=by simp[str,ByteArray.size]
theorem z1n (s:ByteArray):(bts s).length=s.size:=by simp[bts]
theorem y7w {s t:ByteArray} (h:bts s=bts t):s=t:=by rw[<- y4q s,h,y4q]
theorem v8x (s:ByteArray) (k:Nat) (h:k<s.size):(bts s)[k]'(by rw[z1n];exact h)=s[k]:=rfl
theorem y9p (s:ByteArray) (k:Nat) (h:k<s.size):(bts s).take (k+1)=(bts s).take k++[s[k]]:=by
 rw[List.take_succ_eq_append_getElem (by rw[z1n];exact h)];rfl
theorem v7j (s:ByteArray) (k:Nat) (h:k<s.size):(bts s).getD k 0=s[k]:=by
 rw[List.getD_eq_getElem?_getD,List.getElem?_eq_getElem (by rw[z1n];exact h)];rfl
theorem y9r (s:ByteArray) (h:0<s.size):(bts s).headD 0=s[0]:=by
 rw[<- v7j s 0 h];cases bts s<;>rfl
theorem z7n (l:List UInt8) (c:UInt8):dgts (l++[c])=(dgts l&&dgt c):=by simp[dgts,List.all_append]
theorem y5v (s:ByteArray) (k:Nat) (h:k<s.size) (c:dgt s[k]=false):dgts (bts s)=false:=by
 unfold dgts;rw[List.all_eq_false];refine⟨s[k],?_,by simp[c]⟩;have:=List.getElem_mem (l:=bts s) (n:=k) (by rw[z1n];exact h);exact this
theorem z4h {l:List UInt8} (h:z1t l=true):1<=l.length/\l.length<=1000/\(l.length=1\/l.headD 0≠48)/\dgts l=true:=by
 simp only[z1t,Bool.and_eq_true,Bool.or_eq_true,decide_eq_true_eq] at h;exact⟨h.1.1.1,h.1.1.2,h.1.2,h.2⟩
theorem x4z {l:List UInt8} (c:1<=l.length) (g:l.length<=1000) (h:l.length=1\/l.headD 0≠48) (d:dgts l=true):z1t l=true:=by
 simp only[z1t,Bool.and_eq_true,Bool.or_eq_true,decide_eq_true_eq];exact⟨⟨⟨c,g⟩,h⟩,d⟩
theorem v6u {l:List UInt8} (h:dgts l=true) (k:Nat) (c:k<l.length):48<=l[k].toNat/\l[k].toNat<=57:=by
 have:=List.all_eq_true.1 h l[k] (List.getElem_mem _)
 simpa [dgt] using this
def num (l:List UInt8):Nat:=l.foldl (fun n c=>10*n+(c.toNat-48)) 0
abbrev dec (n:Nat):List UInt8:=Lib.decDigits n
theorem z6d (l:List UInt8) (c:UInt8):num (l++[c])=10*num l+(c.toNat-48):=by simp[num,List.foldl_append]
theorem z2s {n:Nat} (h:n<10):dec n=[UInt8.ofNat (48+n)]:=Lib.decDigits_one h
theorem y1r {n:Nat} (h:¬ n<10):dec n=dec (n / 10)++[UInt8.ofNat (48+n % 10)]:=by
 unfold dec;rw[Lib.decDigits,dif_neg h]
theorem u8n {n:Nat} (h:n<256):(UInt8.ofNat n).toNat=n:=by simp[UInt8.toNat_ofNat'];omega
theorem u8d {n:Nat} (h:n<10):(UInt8.ofNat (48+n)).toNat-48=n:=by rw[u8n (by omega)];omega
theorem z9k (n:Nat):num (dec n)=n:=by
 induction n using Nat.strongRecOn with
 | ind n ih =>
  by_cases h:n<10
  ·rw[z2s h];simp only[num,List.foldl];rw[u8d h];omega
  rw[y1r h,z6d,ih (n / 10) (by omega),u8d (by omega)];omega
theorem z7p {m n:Nat} (h:dec m=dec n):m=n:=by rw[<- z9k m,h,z9k]
theorem y8b (n:Nat):1<=(dec n).length:=by unfold dec;rw[Lib.decDigits_length];exact Lib.nDigits_pos n
theorem y8w (n:Nat):dgts (dec n)=true:=by
 induction n using Nat.strongRecOn with
 | ind n ih =>
  by_cases h:n<10
  ·rw[z2s h];simp only[dgts,List.all_cons,List.all_nil,dgt];rw[u8n (by omega)];simp;omega
  rw[y1r h,z7n,ih (n / 10) (by omega)];simp only[dgt];rw[u8n (by omega)];simp;omega
theorem y2e {l r:List UInt8} (h:1<=l.length):(l++r).headD 0=l.headD 0:=by cases l with
 | nil=>simp at h
 | cons a l=>rfl
theorem v6w (n:Nat) (h:1<=n):(dec n).headD 0≠48:=by
 induction n using Nat.strongRecOn with
 | ind n ih =>
  by_cases c:n<10
  ·rw[z2s c];simp only[List.headD_cons];intro e;have:=congrArg UInt8.toNat e;rw[u8n (by omega)] at this;simp at this;omega
  rw[y1r c,y2e (y8b _)];exact ih (n / 10) (by omega) (by omega)
theorem y4h {n:Nat} (h:(dec n).length<=1000):z1t (dec n)=true:=by
 refine x4z (y8b n) h ?_ (y8w n);by_cases c:n=0
 ·left;subst c;rw[z2s (by omega)];rfl
 right;exact v6w n (by omega)
theorem y3e {α:Type} (l:List α) (h:l≠[]):∃ m c,l=m++[c]:=⟨l.dropLast,l.getLast h,(List.dropLast_concat_getLast h).symm⟩
theorem u4n {c:UInt8} {n:Nat} (h:c.toNat=n):UInt8.ofNat n=c:=by rw[<- h];exact UInt8.ofNat_toNat
theorem x2y:∀ (k:Nat) (l:List UInt8),l.length=k->1<=l.length->l.headD 0≠48->dgts l=true->1<=num l/\dec (num l)=l:=by
 intro k
 induction k with
 | zero=>intro l B A;omega
 | succ k ih =>
  intro l g _ d h;obtain⟨m,c,rfl⟩:=y3e l (by intro e;subst e;simp at g);rw[z7n] at h;simp only[Bool.and_eq_true,dgt,decide_eq_true_eq] at h;obtain⟨s,p,z⟩:=h;simp at g;by_cases i:m=[]
  ·subst i;have o:num ([]++[c])=c.toNat-48:=by simp[num]
   have C:c.toNat≠48:=by
    intro e;apply d;have:=UInt8.toNat_inj.1 (show c.toNat=(48:UInt8).toNat from e);simpa using this
   rw[o];refine⟨by omega,?_⟩;rw[z2s (by omega),u4n (c:=c) (by omega)];rfl
  have j:1<=m.length:=by cases m with
   | nil=>exact absurd rfl i
   | cons a l=>simp
  rw[y2e j] at d;obtain⟨i1,u⟩:=ih m g j d s;rw[z6d];refine⟨by omega,?_⟩;rw[y1r (by omega),show (10*num m+(c.toNat-48)) / 10=num m by omega,u,u4n (c:=c) (by omega)]
theorem z9q {l:List UInt8} (h:z1t l=true):dec (num l)=l:=by
 obtain⟨i,o,k,j⟩:=z4h h;by_cases d:l.headD 0≠48
 ·exact(x2y _ l rfl i d j).2
 have g:l.length=1:=by rcases k with h|h;exact h;exact absurd h d
 match l,g with
 | [c],_ =>
  have m:c=48:=by simpa using d
  subst m;have:num [48]=0:=rfl;rw[this,z2s (by omega)];rfl
theorem z3q {n k:Nat}:(dec n).length<=k↔(n<10 ^ k/\1<=k):=by
 unfold dec;rw[Lib.decDigits_length]
 constructor
 ·intro h;exact⟨Nat.lt_of_lt_of_le (Lib.lt_pow_nDigits n) (Nat.pow_le_pow_right (by omega) h),Nat.le_trans (Lib.nDigits_pos n) h⟩
 intro ⟨h,g⟩
 induction k generalizing n with
 | zero=>omega
 | succ k ih =>
  by_cases d:n<10
  ·rw[Lib.nDigits_small d];omega
  rw[Lib.nDigits_big d];by_cases c:k=0
  ·subst c;simp at h;omega
  have:=ih (n:=n / 10) (by rw[Nat.pow_succ] at h;omega) (by omega);omega
theorem v8h (l:List UInt8) (d:dgts l=true):num l<10 ^ l.length:=by
 suffices h:∀ (k:Nat) (l:List UInt8),l.length=k->dgts l=true->num l<10 ^ l.length from h _ l rfl d
 intro k
 induction k with
 | zero=>intro l h _;have:l=[]:=List.length_eq_zero_iff.1 h;subst this;simp[num]
 | succ k ih =>
  intro l g d;obtain⟨m,c,rfl⟩:=y3e l (by intro e;subst e;simp at g);rw[z7n] at d;simp only[Bool.and_eq_true,dgt,decide_eq_true_eq] at d;simp at g;have:=ih m g d.1;rw[z6d,List.length_append,List.length_singleton,Nat.pow_succ];omega
theorem v9m {l m:List UInt8} (d:z1t l=true) (c:z1t m=true) (h:num l=num m):l=m:=by
 rw[<- z9q d,h,z9q c]
end
section
open Go.RowKit
theorem z0w {a b:Bool} (h:a=b):Ending.returned (.bool a)=.returned (.bool b):=by rw[h]
theorem z5j {k:IntKind} {a b:Int} (h:a=b):Ending.returned (.int k a)=.returned (.int k b):=by rw[h]
theorem v1k {a b:ByteArray} (h:a=b):Ending.returned (.string a)=.returned (.string b):=by rw[h]
theorem v4g {k c:IntKind} {a b a' b':Int} (h:a=a') (d:b=b'):Ending.returned (.tuple #[.int k a,.int c b])=.returned (.tuple #[.int k a',.int c b']):=by rw[h,d]
theorem below_drewN {B:Nat} {a w:World} (h:Below B a w) (n:Nat):Below B a (w.drewN n):=h.trans ⟨rfl,rfl,rfl,nlr,fun _ _=>rfl⟩
def lenV (v:Value):Nat:=match v with | .slice _ n _=>n|_=>0
theorem y5y (a:Option Addr) (n c:Nat):lenV (.slice a n c)=n:=rfl
def strV (v:Value):Nat:=match v with | .string s=>s.size|_=>0
theorem x2u (s:ByteArray):strV (.string s)=s.size:=rfl
def nth (xs:List Nat) (i:Nat):Nat:=xs.getD i 0
theorem y1t (xs:List Nat) (i:Nat) (h:i<xs.length):nth xs i=xs[i]:=by simp[nth,List.getD_eq_getElem?_getD,h]
theorem z1p (xs:List Nat) (i:Nat) (h:xs.length<=i):nth xs i=0:=by simp[nth,List.getD_eq_getElem?_getD,h]
theorem z8z (xs:List Nat) (k i:Nat) (h:i<k):nth (xs.take k) i=nth xs i:=by simp[nth,List.getD_eq_getElem?_getD,h]
theorem y5p (xs:List Nat) (k:Nat) (h:k<xs.length):xs.take (k+1)=xs.take k++[nth xs k]:=by
 rw[List.take_succ_eq_append_getElem h,y1t xs k h]
def vals (k:IntKind) (xs:List Nat):List Value:=xs.map fun n:Nat=>Value.int k (n:Int)
theorem x3k (k:IntKind) (xs:List Nat):(vals k xs).length=xs.length:=by simp[vals]
theorem y3r (k:IntKind) (xs:List Nat) (n:Nat):vals k xs++[.int k (n:Int)]=vals k (xs++[n]):=by simp[vals]
theorem x9f (k:IntKind) (xs:List Nat) (n:Nat):(vals k xs).take n=vals k (xs.take n):=by simp[vals,List.map_take]
theorem x3f (k:IntKind) (xs:List Nat) (i:Nat) (h:i<xs.length):(vals k xs)[i]?=some (.int k ((nth xs i:Nat):Int)):=by
 rw[y1t xs i h];simp[vals,h]
def Sl (w:World) (k:IntKind) (v:Value) (xs:List Nat):Prop :=
 (v=.slice none 0 0/\xs=[])\/∃ b off cap,v=.slice (some ⟨b,off,none⟩) xs.length cap/\b<w.heap.size/\xs.length<=cap/\cap<=maxLen /\
  ∀ i,i<xs.length->w.cell? ⟨b,off+i,none⟩=some (.int k ((nth xs i:Nat):Int))
theorem Sl.open {w:World} {k:IntKind} {v:Value} {xs:List Nat} (h:Sl w k v xs):∃ a cap b off,v=.slice a xs.length cap/\(0<xs.length->a=some ⟨b,off,none⟩)/\xs.length<=cap/\cap<=maxLen /\
  (0<xs.length->b<w.heap.size)/\∀ i,i<xs.length->w.cell? ⟨b,off+i,none⟩=some (.int k ((nth xs i:Nat):Int)):=by
 rcases h with ⟨c,rfl⟩|⟨b,off,cap,c,g,l,d,j⟩
 ·exact⟨none,0,0,0,c,by simp,by simp,by simp,by simp,by simp⟩
 exact⟨_,cap,b,off,c,fun _=>rfl,l,d,fun _=>g,j⟩
theorem Sl.nil (w:World) (k:IntKind):Sl w k (.slice none 0 0) []:=.inl ⟨rfl,rfl⟩
theorem Sl.below {B:Nat} {w g:World} {k:IntKind} {v:Value} {xs:List Nat} (h:Sl w k v xs) (hb:Below B w g) (u:w.heap.size<=B):Sl g k v xs:=by
 rcases h with h|⟨b,c,d,j,m,s,l,o⟩
 ·exact .inl h
 exact .inr ⟨b,c,d,j,Nat.lt_of_lt_of_le m hb.size,s,l,fun i hi=>(hb.cell (p:=⟨b,c+i,none⟩) (by show b<B;omega)).trans (o i hi)⟩
theorem Sl.take {w:World} {k:IntKind} {a:Option Addr} {n cap m:Nat} {xs:List Nat} (h:Sl w k (.slice a n cap) xs) (g:m<=xs.length):Sl w k (.slice a m cap) (xs.take m):=by
 rcases h with ⟨d,rfl⟩|⟨b,j,c,d,o,s,l,p⟩
 ·simp at d g;subst g;obtain⟨rfl,rfl,rfl⟩:=d;exact .inl ⟨rfl,rfl⟩
 simp at d;obtain⟨rfl,rfl,rfl⟩:=d;refine .inr ⟨b,j,cap,by rw[List.length_take,Nat.min_eq_left g],o,by rw[List.length_take];omega,l,fun i hi=>?_⟩;rw[List.length_take] at hi;rw[z8z _ _ _ (by omega)];exact p i (by omega)
def Own (w:World) (B:Nat) (e:TypeId) (k:IntKind) (v:Value) (xs:List Nat):Prop:=w.ownsRow B e 1 v xs.length (vals k xs)
theorem Own.nil (w:World) (B:Nat) (e:TypeId) (k:IntKind):Own w B e k (.slice none 0 0) []:=World.ownsRow_nil w B e 1
theorem Own.sl {w:World} {B:Nat} {e:TypeId} {k:IntKind} {v:Value} {xs:List Nat} (h:Own w B e k v xs):Sl w k v xs:=by
 rcases h.2 with ⟨c,j⟩|⟨g,d,m,c,_,p,l,o,u,s⟩
 ·exact .inl ⟨c,List.length_eq_zero_iff.1 j⟩
 refine .inr ⟨g,0,d,c,(Array.getElem?_eq_some_iff.1 p).1,l,o,fun i hi=>?_⟩;subst c;rw[Nat.zero_add,World.ownsRow.cellAt h i (by omega),x3f k xs i hi]
theorem Own.kept {w m:World} {B:Nat} {e:TypeId} {k:IntKind} {v:Value} {xs:List Nat} {l:Nat} (h:Own w B e k v xs) (hb:Below l w m) (s:w.heap.size<=l):Own m B e k v xs:=by
 refine⟨h.1,?_⟩
 rcases h.2 with p|⟨g,i,j,rfl,o,d,c⟩
 ·exact .inl p
 have:=(Array.getElem?_eq_some_iff.1 d).1;exact .inr ⟨g,i,j,rfl,o,by rw[hb.block g (by omega)];exact d,c⟩
theorem Own.mono {w:World} {B j:Nat} {e:TypeId} {k:IntKind} {v:Value} {xs:List Nat} (h:Own w B e k v xs) (o:j<=B):Own w j e k v xs:=by
 refine⟨h.1,?_⟩
 rcases h.2 with l|⟨g,d,i,rfl,m,c⟩
 ·exact .inl l
 exact .inr ⟨g,d,i,rfl,by omega,c⟩
theorem Own.take {w:World} {B:Nat} {e:TypeId} {k:IntKind} {a:Option Addr} {n cap m:Nat} {xs:List Nat} (h:Own w B e k (.slice a n cap) xs) (A:m<=xs.length):Own w B e k (.slice a m cap) (xs.take m):=by
 have o:(xs.take m).length=m:=by rw[List.length_take];omega
 refine⟨by rw[x3k];omega,?_⟩;rw[o]
 rcases h.2 with ⟨d,l⟩|⟨g,c,j,d,l,i,z,u,s,p⟩
 ·simp at d;obtain⟨rfl,rfl,rfl⟩:=d;have:m=0:=by omega
  subst this;exact .inl ⟨rfl,rfl⟩
 simp only[Value.slice.injEq] at d;obtain⟨rfl,rfl,rfl⟩:=d;refine .inr ⟨g,cap,j,rfl,l,i,by omega,u,s,?_⟩;rw[<- x9f,<- p,List.take_take];congr 1;omega
theorem Own.appended {w wr c:World} {B:Nat} {e:TypeId} {k:IntKind} {v v':Value} {l:List Nat} {x:Nat} {o:Obj} (h:Own wr B e k v l) (hb:Below B w wr) (j:B<=wr.heap.size)
  (d:c.ownsRow B e 1 v' (l.length+1) (vals k l++[.int k (x:Int)])) (i:(wr.alloc o).grownBy c v.ownBlock):Own c B e k v' (l++[x])/\Below B w c:=by
 constructor
 ·unfold Own;rw[y3r] at d;rw[List.length_append];exact d
 exact(hb.alloc j o).grown i (by simp;omega) (fun q g=>(World.ownsRow.lt h q g).1)
theorem Own.raw {w:World} {B:Nat} {e:TypeId} {k:IntKind} {v:Value} {l:List Nat} (h:Own w B e k v l):w.ownsRow B e 1 v l.length (vals k l):=h
theorem one_cell (k:IntKind) (x:Int):∀ u ∈ [Value.int k x],u.oneCell'=true:=by intro u c;simp at c;subst c;rfl
theorem Own.shape {w:World} {B:Nat} {e:TypeId} {k:IntKind} {v:Value} {xs:List Nat} (h:Own w B e k v xs):∃ a cap,v=.slice a xs.length cap:=by
 rcases h.2 with ⟨c,d⟩|⟨g,cap,i,c,_⟩
 ·exact⟨none,0,by rw[c,d]⟩
 exact⟨_,cap,c⟩
theorem Sl.shape {w:World} {k:IntKind} {v:Value} {xs:List Nat} (h:Sl w k v xs):∃ a cap,v=.slice a xs.length cap:=by
 rcases h with ⟨c,d⟩|⟨b,g,cap,c,_⟩
 ·exact⟨none,0,by rw[c,d];rfl⟩
 exact⟨_,cap,c⟩
end
section
def z6m (l:List UInt8):Bool:=l.headD 0==45
def z1a (l:List UInt8):List UInt8:=if z6m l then l.tail else l
def hasS (l:List UInt8):Bool:=l.any (·==47)
def upTo (l:List UInt8):List UInt8:=l.takeWhile (· != 47)
def z6k (l:List UInt8):List UInt8:=(l.dropWhile (· != 47)).tail
def denL (l:List UInt8):List UInt8:=if hasS l then z6k l else [49]
def okP (neg:Bool) (n d:List UInt8) (frac:Bool):Bool :=
 z1t n&&z1t d&&decide (n.length<=400)&&decide (d.length<=400)&&!(neg&&(n==[48]))&&!(frac&&(d==[48]||d==[49]))&&decide (Nat.gcd (num n) (num d)=1)
def sg (neg:Bool) (m:Nat):Int:=if neg then -(m:Int) else (m:Int)
def prsL (l:List UInt8):Option Rat :=
 if okP (z6m l) (upTo (z1a l)) (denL (z1a l)) (hasS (z1a l)) then some (mkRat (sg (z6m l) (num (upTo (z1a l)))) (num (denL (z1a l)))) else none
def prs (s:ByteArray):Option Rat:=prsL (bts s)
def fitQ (q:Rat):Prop:=(dec q.num.natAbs).length<=400/\(dec q.den).length<=400
instance (q:Rat):Decidable (fitQ q):=inferInstanceAs (Decidable (_/\_))
def negQ (q:Rat):Bool:=decide (q.num<0)
def txtL (q:Rat):List UInt8:=(if negQ q then [45] else [])++(dec q.num.natAbs++(if q.den=1 then [] else 47::dec q.den))
def txt (q:Rat):ByteArray:=str (txtL q)
def limR (q:Rat):ByteArray × Nat:=if fitQ q then (txt q,0) else (str [],2)
theorem x9p (neg:Bool) (m:Nat):(sg neg m).natAbs=m:=by unfold sg;split<;>simp
theorem v8v {neg:Bool} {m:Nat}:sg neg m=0↔m=0:=by unfold sg;split<;>omega
theorem v7y {neg:Bool} {m:Nat}:sg neg m<0↔(neg=true/\m≠0):=by unfold sg;cases neg<;>simp<;>omega
theorem y1e (q:Rat):sg (negQ q) q.num.natAbs=q.num:=by unfold sg negQ;by_cases h:q.num<0<;>simp[h]<;>omega
theorem x8d {n:Int} {d:Nat} (c:d≠0) (h:Nat.gcd n.natAbs d=1):(mkRat n d).num=n/\(mkRat n d).den=d:=by
 have:=Rat.mk_eq_mkRat n d c h;rw[<- this];exact⟨rfl,rfl⟩
theorem z5e:dec 0=[48]:=by rw[z2s (by omega)];rfl
theorem z5x:dec 1=[49]:=by rw[z2s (by omega)];rfl
theorem y8z {neg:Bool} {n d:List UInt8} {c:Bool} (h:okP neg n d c=true) :
  z1t n=true/\z1t d=true/\n.length<=400/\d.length<=400/\(neg=true->n≠[48])/\(c=true->d≠[48]/\d≠[49])/\Nat.gcd (num n) (num d)=1:=by
 simp only[okP,Bool.and_eq_true,Bool.not_eq_true',decide_eq_true_eq] at h;obtain⟨⟨⟨⟨⟨⟨i,p⟩,o⟩,j⟩,k⟩,g⟩,l⟩:=h;refine⟨i,p,o,j,?_,?_,l⟩
 ·intro m e;subst m;subst e;simp at k
 intro hf;subst hf;simp at g;exact g
theorem u2i {neg:Bool} {n d:List UInt8} {c:Bool} (h:z1t n=true) (m:z1t d=true) (l:n.length<=400) (i:d.length<=400)
  (j:neg=true->n≠[48]) (g:c=true->d≠[48]/\d≠[49]) (k:Nat.gcd (num n) (num d)=1):okP neg n d c=true:=by
 simp only[okP,Bool.and_eq_true,Bool.not_eq_true',decide_eq_true_eq];refine⟨⟨⟨⟨⟨⟨h,m⟩,l⟩,i⟩,?_⟩,?_⟩,k⟩
 ·cases neg
  ·rfl
  have:=j rfl;simp[this]
 cases c
 ·rfl
 have:=g rfl;simp[this.1,this.2]
theorem y2k {l:List UInt8} (h:z1t l=true):num l=0↔l=[48]:=by
 constructor
 ·intro e;rw[<- z9q h,e,z5e]
 intro e;subst e;rfl
structure IsQ (q:Rat) (neg:Bool) (n d:List UInt8):Prop where
 sign:negQ q=neg
 top:dec q.num.natAbs=n
 bot:dec q.den=d
 topv:q.num.natAbs=num n
 botv:q.den=num d
 fit:fitQ q
theorem u0u {neg:Bool} {n d:List UInt8} {c:Bool} (h:okP neg n d c=true) (s:c=false->d=[49]):IsQ (mkRat (sg neg (num n)) (num d)) neg n d:=by
 obtain⟨m,l,A,z,C,u,D⟩:=y8z h;have B:num d≠0:=by
  intro e;have g:=(y2k l).1 e;cases hf:c
  ·have:=s hf;rw[this] at g;simp at g
  exact(u hf).1 g
 obtain⟨k,j⟩:=x8d (n:=sg neg (num n)) B (by rw[x9p];exact D);have i:(mkRat (sg neg (num n)) (num d)).num.natAbs=num n:=by rw[k,x9p]
 have p:dec (num n)=n:=z9q m;have o:dec (num d)=d:=z9q l;refine⟨?_,by rw[i,p],by rw[j,o],i,j,?_⟩
 ·unfold negQ;rw[k];cases neg
  ·simp[sg]
  have:num n≠0:=fun e=>C rfl ((y2k m).1 e);simp[sg];omega
 unfold fitQ;rw[i,j,p,o];exact⟨A,z⟩
theorem y9j {l:List UInt8} {q:Rat} (h:prsL l=some q):okP (z6m l) (upTo (z1a l)) (denL (z1a l)) (hasS (z1a l))=true/\IsQ q (z6m l) (upTo (z1a l)) (denL (z1a l)):=by
 unfold prsL at h
 split at h
 ·rename_i c;have d:=Option.some.inj h;refine⟨c,?_⟩;rw[<- d];exact u0u c (fun h=>by unfold denL;rw[h];rfl)
 exact absurd h (by simp)
theorem v5e (l:List UInt8):l=(if z6m l then [45] else [])++z1a l:=by
 unfold z1a
 split
 ·rename_i h;cases l with
  | nil=>simp[z6m] at h
  | cons a l=>simp[z6m] at h;simp[h]
 simp
theorem y6e (l:List UInt8) (h:hasS l=true):l=upTo l++47::z6k l:=by
 induction l with
 | nil=>simp[hasS] at h
 | cons a l ih =>
  by_cases c:a=47
  ·subst c;simp[upTo,z6k]
  have:hasS l=true:=by simpa [hasS,c] using h
  have i:=ih this;have d:upTo (a::l)=a::upTo l:=by simp[upTo,c]
  have g:z6k (a::l)=z6k l:=by simp[z6k,c]
  rw[d,g,List.cons_append,<- i]
theorem y8h (l:List UInt8) (h:hasS l=false):upTo l=l:=by
 induction l with
 | nil=>rfl
 | cons a l ih =>
  simp[hasS] at h;have c:upTo (a::l)=a::upTo l:=by simp[upTo,h.1]
  rw[c,ih (by simp[hasS];exact h.2)]
theorem v0e {l:List UInt8} (h:dgts l=true):∀ c ∈ l,c≠47/\c≠45:=by
 intro c d;have:=List.all_eq_true.1 h c d;simp[dgt] at this
 constructor
 ·intro e;subst e;simp at this
 intro e;subst e;simp at this
theorem v3g {n r:List UInt8} (h:∀ c ∈ n,c≠47):upTo (n++47::r)=n/\z6k (n++47::r)=r/\hasS (n++47::r)=true:=by
 induction n with
 | nil=>simp[upTo,z6k,hasS]
 | cons a n ih =>
  have d:=h a (by simp);obtain⟨i1,g,j⟩:=ih (fun c i=>h c (by simp[i]));refine⟨?_,?_,by simp[hasS]⟩
  ·rw[List.cons_append];show upTo (a::_)=_;have:upTo (a::(n++47::r))=a::upTo (n++47::r):=by simp[upTo,d]
   rw[this,i1]
  have:z6k (a::(n++47::r))=z6k (n++47::r):=by simp[z6k,d]
  rw[List.cons_append,this,g]
theorem noS {n:List UInt8} (h:∀ c ∈ n,c≠47):hasS n=false:=by
 simp[hasS];exact h
theorem x9g {q:Rat} (h:fitQ q):prsL (txtL q)=some q:=by
 obtain⟨g,B⟩:=h;have v1:z1t (dec q.num.natAbs)=true:=y4h (by omega);have s:z1t (dec q.den)=true:=y4h (by omega);have j:∀ c ∈ dec q.num.natAbs,c≠47:=fun c G=>(v0e (y8w _) c G).1;have D:∀ R:List UInt8,z6m ((if negQ q then [45] else [])++(dec q.num.natAbs++R))=negQ q/\z1a ((if negQ q then [45] else [])++(dec q.num.natAbs++R))=dec q.num.natAbs++R:=by
  intro R;have:z6m ((if negQ q then [45] else [])++(dec q.num.natAbs++R))=negQ q:=by
   cases i:negQ q
   ·have k:=y8b q.num.natAbs;have g:=y8w q.num.natAbs
    revert k g
    generalize dec q.num.natAbs=l;intro k g;cases l with
    | nil=>simp at k
    | cons a l=>have:=(v0e g a (by simp)).2;simp[z6m,this]
   simp[z6m]
  refine⟨this,?_⟩;unfold z1a;rw[this];cases negQ q<;>simp
 have d:denL (dec q.num.natAbs++(if q.den=1 then [] else 47::dec q.den))=dec q.den/\upTo (dec q.num.natAbs++(if q.den=1 then [] else 47::dec q.den))=dec q.num.natAbs /\
   hasS (dec q.num.natAbs++(if q.den=1 then [] else 47::dec q.den))=decide (q.den≠1):=by
  by_cases i:q.den=1
  ·rw[if_pos i,List.append_nil,i];have:=noS j;refine⟨by unfold denL;rw[this,z5x];rfl,y8h _ this,by rw[this];simp⟩
  rw[if_neg i];obtain⟨i1,F,m⟩:=v3g (r:=dec q.den) j;exact⟨by unfold denL;rw[m,F];rfl,i1,by rw[m];simp[i]⟩
 obtain⟨z,E⟩:=D (if q.den=1 then [] else 47::dec q.den)
 obtain⟨o,C,p⟩:=d;have u:okP (negQ q) (dec q.num.natAbs) (dec q.den) (decide (q.den≠1))=true:=by
  refine u2i v1 s g B ?_ ?_ ?_
  ·intro A e;have:q.num.natAbs=0:=z7p (e.trans z5e.symm);simp[negQ] at A;omega
  ·intro hf;simp at hf;refine⟨fun e=>?_,fun e=>hf ?_⟩
   ·exact q.den_nz (z7p (e.trans z5e.symm))
   exact z7p (e.trans z5x.symm)
  rw[z9k,z9k];exact q.reduced
 unfold prsL txtL;rw[z,E,o,C,p,if_pos u,z9k,z9k,y1e,Rat.mkRat_self]
theorem z2k {q:Rat} (h:fitQ q):prs (txt q)=some q:=by unfold prs txt;rw[z2u];exact x9g h
theorem v2h {l:List UInt8} {q:Rat} (h:prsL l=some q):l=txtL q/\fitQ q:=by
 obtain⟨k,c⟩:=y9j h;refine⟨?_,c.fit⟩;have e:=v5e l;have i:=y8z k;unfold txtL;rw[c.sign,c.top];have:z1a l=upTo (z1a l)++(if q.den=1 then [] else 47::dec q.den):=by
  cases d:hasS (z1a l)
  ·have g:denL (z1a l)=[49]:=by unfold denL;rw[d];rfl
   have:q.den=1:=z7p (c.bot.trans (g.trans z5x.symm));rw[if_pos this,List.append_nil,y8h _ d]
  have g:denL (z1a l)=z6k (z1a l):=by unfold denL;rw[d];rfl
  have:q.den≠1:=by
   intro m;have j:=c.bot;rw[m,z5x] at j;exact(i.2.2.2.2.2.1 d).2 j.symm
  rw[if_neg this,c.bot,g];exact y6e _ d
 rw[<- this];exact e
theorem z2w {s:ByteArray} {q:Rat} (h:prs s=some q):s=txt q/\fitQ q:=by
 obtain⟨c,d⟩:=v2h h;exact⟨by unfold txt;rw[<- c,y4q],d⟩
theorem u1u {p q:Rat} (c:fitQ p) (d:fitQ q) (h:txt p=txt q):p=q:=by
 have:=z2k c;rw[h,z2k d] at this;exact(Option.some.inj this).symm
def szQ (k:Nat) (q:Rat):Prop:=q.num.natAbs<10 ^ k/\q.den<10 ^ k
theorem x8f {q:Rat}:fitQ q↔szQ 400 q:=by
 unfold fitQ szQ;rw[z3q,z3q];omega
theorem szQ.mono {j k:Nat} {q:Rat} (h:szQ j q) (c:j<=k):szQ k q :=
 ⟨Nat.lt_of_lt_of_le h.1 (Nat.pow_le_pow_right (by omega) c),Nat.lt_of_lt_of_le h.2 (Nat.pow_le_pow_right (by omega) c)⟩
theorem y7s {n:Int} {d:Nat} (c:d≠0):(mkRat n d).num.natAbs<=n.natAbs/\(mkRat n d).den<=d:=by
 rw[Rat.num_mkRat,Rat.den_mkRat,if_neg c,if_neg c];exact⟨by rw[Int.natAbs_ediv_of_dvd];exact Nat.div_le_self _ _;exact Int.ofNat_dvd_left.2 (Nat.gcd_dvd_right _ _),Nat.div_le_self _ _⟩
theorem y5w {a b A B:Nat} (c:a<A) (d:b<B):a*b<A*B:=by
 rcases Nat.eq_zero_or_pos b with h|h
 ·subst h;rw[Nat.mul_zero];exact Nat.mul_pos (by omega) (by omega)
 exact Nat.lt_of_lt_of_le (Nat.mul_lt_mul_of_pos_right c h) (Nat.mul_le_mul_left _ (by omega))
theorem szQ.mul {j k:Nat} {p q:Rat} (g:szQ j p) (h:szQ k q):szQ (j+k) (p*q):=by
 rw[Rat.mul_def'];obtain⟨c,i⟩:=y7s (n:=p.num*q.num) (d:=p.den*q.den) (Nat.mul_ne_zero p.den_nz q.den_nz);rw[Int.natAbs_mul] at c
 constructor
 ·rw[Nat.pow_add];exact Nat.lt_of_le_of_lt c (y5w g.1 h.1)
 rw[Nat.pow_add];exact Nat.lt_of_le_of_lt i (y5w g.2 h.2)
theorem szQ.add {j k:Nat} {p q:Rat} (g:szQ j p) (c:szQ k q):szQ (j+k+1) (p+q):=by
 rw[Rat.add_def'];obtain⟨o,s⟩:=y7s (n:=p.num*q.den+q.num*p.den) (d:=p.den*q.den) (Nat.mul_ne_zero p.den_nz q.den_nz);have i:=Int.natAbs_add_le (p.num*q.den) (q.num*p.den);rw[Int.natAbs_mul,Int.natAbs_mul,Int.natAbs_natCast,Int.natAbs_natCast] at i;have l:=y5w g.1 c.2;have h:=y5w c.1 g.2;have m:=y5w g.2 c.2;rw[Nat.mul_comm (10 ^ k)] at h
 constructor
 ·rw[Nat.pow_succ,Nat.pow_add];omega
 rw[Nat.pow_succ,Nat.pow_add];omega
theorem szQ.neg {j:Nat} {p:Rat} (c:szQ j p):szQ j (-p):=by
 refine⟨?_,?_⟩
 ·rw[Rat.neg_num,Int.natAbs_neg];exact c.1
 rw[Rat.neg_den];exact c.2
theorem z2x {q:Rat} (h:fitQ q):(txt q).size<=802:=by
 unfold txt;rw[z1f];unfold txtL;obtain⟨c,d⟩:=h;simp only[List.length_append];have:(if negQ q then [45] else ([]:List UInt8)).length<=1:=by split<;>simp
 have:(if q.den=1 then [] else 47::dec q.den).length<=401:=by split<;>simp;omega
 omega
theorem y9b (q:Rat):(limR q).1.size<=802:=by
 unfold limR;split
 ·rename_i h;exact z2x h
 rw[z1f];simp
theorem z8w {q:Rat} (h:fitQ q):limR q=(txt q,0):=by unfold limR;rw[if_pos h]
theorem x9s {q:Rat} (h:¬ fitQ q):limR q=(str [],2):=by unfold limR;rw[if_neg h]
def x0b (a b:ByteArray):ByteArray × Nat:=match prs a,prs b with|some x,some y=>limR (x+y)|_,_=>(str [],1)
def v0d (a b:ByteArray):ByteArray × Nat:=match prs a,prs b with|some x,some y=>limR (x-y)|_,_=>(str [],1)
def y7j (a b:ByteArray):ByteArray × Nat:=match prs a,prs b with|some x,some y=>limR (x*y)|_,_=>(str [],1)
def y5i (a b:ByteArray):ByteArray × Nat:=match prs a,prs b with|some x,some y=>if y=0 then (str [],4) else limR (x / y)|_,_=>(str [],1)
def cmpQ (x y:Rat):Int:=if x<y then -1 else if x=y then 0 else 1
def y4v (a b:ByteArray):Int:=match prs a,prs b with|some x,some y=>cmpQ x y|_,_=>0
def sumF (p:Bool) (a:Nat) (q:Bool) (b:Nat):Bool × Nat:=if p=q then (p,a+b) else if a<b then (q,b-a) else (p,a-b)
theorem y8n (p:Bool) (a:Nat) (q:Bool) (b:Nat):sg (sumF p a q b).1 (sumF p a q b).2=sg p a+sg q b:=by
 unfold sumF sg;cases p<;>cases q<;>simp<;>(try split)<;>(try simp)<;>omega
theorem x9y (p:Bool) (a:Nat) (q:Bool) (b:Nat):(sumF p a q b).2<=a+b:=by
 unfold sumF;split
 ·exact nlr
 split<;>simp<;>omega
theorem v8f (p q:Bool) (m n:Nat):sg p m*sg q n=sg (p != q) (m*n):=by
 unfold sg;cases p<;>cases q<;>simp[Int.neg_mul,Int.mul_neg]
theorem u3b (p:Bool) (m n:Nat):sg p m*(n:Int)=sg p (m*n):=by
 unfold sg;cases p<;>simp[Int.neg_mul]
theorem v7x (p:Bool) (m:Nat):sg (!p) m=- sg p m:=by unfold sg;cases p<;>simp
theorem z8n (x:Rat) (d:Nat):x.num*(d:Int)=sg (negQ x) (x.num.natAbs*d):=by
 rw[<- u3b,y1e]
theorem u4m (x y:Rat):x+y=mkRat (sg (sumF (negQ x) (x.num.natAbs*y.den) (negQ y) (y.num.natAbs*x.den)).1 (sumF (negQ x) (x.num.natAbs*y.den) (negQ y) (y.num.natAbs*x.den)).2) (x.den*y.den):=by
 rw[y8n,<- z8n,<- z8n,Rat.add_def']
theorem u3x (x y:Rat):x-y=mkRat (sg (sumF (negQ x) (x.num.natAbs*y.den) (!negQ y) (y.num.natAbs*x.den)).1 (sumF (negQ x) (x.num.natAbs*y.den) (!negQ y) (y.num.natAbs*x.den)).2) (x.den*y.den):=by
 rw[y8n,v7x,<- z8n,<- z8n,Rat.sub_def',Int.sub_eq_add_neg]
theorem u2t (x y:Rat):x*y=mkRat (sg (negQ x != negQ y) (x.num.natAbs*y.num.natAbs)) (x.den*y.den):=by
 rw[<- v8f,y1e,y1e,Rat.mul_def']
theorem u2r (y:Rat):y⁻¹=mkRat (sg (negQ y) y.den) y.num.natAbs:=by
 rw[Rat.inv_def];have h:=y1e y;unfold sg at h ⊢;cases c:negQ y
 ·rw[c] at h;simp at h;rw[<- h,Rat.divInt_ofNat];simp
 rw[c] at h;simp only[if_true] at h;rw[<- h,Rat.divInt_neg',Rat.divInt_ofNat];simp
theorem u3j (x y:Rat):x / y=mkRat (sg (negQ x != negQ y) (x.num.natAbs*y.den)) (x.den*y.num.natAbs):=by
 rw[Rat.div_def,u2r,<- v8f,y1e]
 conv=>lhs;rw[<- Rat.mkRat_self x]
 rw[Rat.mkRat_mul_mkRat]
theorem u4j (x y:Rat):cmpQ x y=if (sumF (negQ x) (x.num.natAbs*y.den) (!negQ y) (y.num.natAbs*x.den)).2=0 then 0 else if (sumF (negQ x) (x.num.natAbs*y.den) (!negQ y) (y.num.natAbs*x.den)).1=true then -1 else 1:=by
 have h:=y8n (negQ x) (x.num.natAbs*y.den) (!negQ y) (y.num.natAbs*x.den);rw[v7x,<- z8n,<- z8n] at h;unfold cmpQ;have c:=Rat.lt_iff x y;have g:=Rat.eq_iff_mul_eq_mul (p:=x) (q:=y);generalize sumF (negQ x) (x.num.natAbs*y.den) (!negQ y) (y.num.natAbs*x.den)=r at h ⊢;obtain⟨s,k⟩:=r;simp only at h ⊢;by_cases d:k=0
 ·rw[if_pos d];have:sg s k=0:=v8v.2 d;rw[if_neg (by rw[c];omega),if_pos (by rw[g];omega)]
 rw[if_neg d];cases s
 ·have:0<sg false k:=by unfold sg;simp;omega
  rw[if_neg (by rw[c];omega),if_neg (by rw[g];omega)];rfl
 have:sg true k<0:=by unfold sg;simp;omega
 rw[if_pos (by rw[c];omega)];rfl
theorem v1w (z:Int) (d:Nat) (h:d≠0):(mkRat z d).num.natAbs=z.natAbs / Nat.gcd z.natAbs d/\(mkRat z d).den=d / Nat.gcd z.natAbs d/\negQ (mkRat z d)=decide (z<0):=by
 have c:=Rat.num_mkRat z d;have g:=Rat.den_mkRat z d;rw[if_neg h,Nat.gcd_comm] at c g;have i:(Nat.gcd z.natAbs d:Int) ∣ z:=Int.ofNat_dvd_left.2 (Nat.gcd_dvd_left _ _);have j:0<Nat.gcd z.natAbs d:=Nat.gcd_pos_of_pos_right _ (Nat.pos_of_ne_zero h);refine⟨?_,g,?_⟩
 ·rw[c,Int.natAbs_ediv_of_dvd i,Int.natAbs_natCast]
 unfold negQ;rw[c];have:z / (Nat.gcd z.natAbs d:Int)<0↔z<0:=by
  rw[Int.ediv_lt_iff_lt_mul (by omega)];simp
 rw[decide_eq_decide];exact this
end
section
inductive V where
 | inf|low|fin (q:Rat)
 deriving DecidableEq
def infS:ByteArray:=⟨#[105,110,102]⟩
def lowS:ByteArray:=⟨#[45,105,110,102]⟩
def okV (k:Int):V->Prop
 | .inf=>1<=k/\k<=3
 | .low=>k=1
 | .fin q=>k=1\/((k=2\/k=3)/\0<=q)
instance (k:Int) (v:V):Decidable (okV k v):=by cases v<;>unfold okV<;>infer_instance
def rdV (s:ByteArray):Option V:=if s=infS then some .inf else if s=lowS then some .low else (prs s).map .fin
def vprs (k:Int) (s:ByteArray):Option V:=(rdV s).filter fun v=>decide (okV k v)
def vtxt:V->ByteArray
 | .inf=>infS
 | .low=>lowS
 | .fin q=>txt q
def fitV:V->Prop
 | .fin q=>fitQ q
 | _=>True
def limV:V->ByteArray × Nat
 | .fin q=>limR q
 | v=>(vtxt v,0)
def cmpV:V->V->Int
 | .inf,.inf=>0
 | .low,.low=>0
 | .low,_=>-1
 | _,.inf=>-1
 | _,.low=>1
 | .inf,_=>1
 | .fin x,.fin y=>cmpQ x y
def zeroV (k:Int):V:=if k=1 then .inf else .fin 0
def oneV (k:Int):V:=if k=1 then .fin 0 else .fin 1
def addV:V->V->V
 | .fin x,.fin y=>.fin (x+y)
 | _,_=>.inf
def z1k (k:Int) (v w:V):V:=if k=2 then addV v w else if k=1 then (if 0<cmpV v w then w else v) else (if cmpV v w<0 then w else v)
def z0i (k:Int) (v w:V):V :=
 if v=zeroV k\/w=zeroV k then zeroV k else match v,w with
  | .inf,_=>.inf
  | _,.inf=>.inf
  | .low,_=>.low
  | _,.low=>.low
  | .fin x,.fin y=>if k=1 then .fin (x+y) else .fin (x*y)
def z1x (k:Int) (v:V):V :=
 if k=1 then (if 0<=cmpV v (.fin 0) then .fin 0 else .low)
 else if k=3 then (if cmpV v (.fin 1)<=0 then .fin 1 else .inf)
 else match v with
  | .fin x=>if 0<=cmpQ x 1 then .inf else .fin (1 / (1-x))
  | _=>.inf
def wtV (k:Int):V->Prop
 | .fin q=>k=1\/((k=2\/k=3)/\0<q)
 | _=>False
instance (k:Int) (v:V):Decidable (wtV k v):=by cases v<;>unfold wtV<;>infer_instance
def u1f (k:Int) (v w:V):Int:=if k=1 then cmpV v w else cmpV w v
def argS:ByteArray × Nat:=(str [],1)
def z0p (k:Int) (a:ByteArray):Bool:=(vprs k a).isSome
def z0s (k:Int) (a:ByteArray):Bool:=match rdV a with|some v=>decide (wtV k v)|none=>false
def z3t (k:Int):Bool:=decide (1<=k)&&decide (k<=3)
def z1h (k:Int):ByteArray:=if z3t k then vtxt (zeroV k) else str []
def oneF (k:Int):ByteArray:=if z3t k then vtxt (oneV k) else str []
def z1i (k:Int) (a b:ByteArray):ByteArray × Nat:=match vprs k a,vprs k b with|some v,some w=>limV (z1k k v w)|_,_=>argS
def z0n (k:Int) (a b:ByteArray):ByteArray × Nat:=match vprs k a,vprs k b with|some v,some w=>limV (z0i k v w)|_,_=>argS
def z5k (k:Int) (a:ByteArray):ByteArray × Nat:=match vprs k a with|some v=>limV (z1x k v)|none=>argS
def u4f (k:Int) (v w:V):Prop:=(v=zeroV k\/wtV k v)/\wtV k w
instance (k:Int) (v w:V):Decidable (u4f k v w):=inferInstanceAs (Decidable (_/\_))
def y3s (k:Int) (a b:ByteArray):Int:=match vprs k a,vprs k b with|some v,some w=>u1f k v w|_,_=>0
theorem y8d:prs infS=none:=by decide +kernel
theorem y4a:prs lowS=none:=by decide +kernel
theorem y6x {v:V} (h:fitV v):rdV (vtxt v)=some v:=by
 cases v with
 | inf=>simp[rdV,vtxt]
 | low=>simp[rdV,vtxt,show lowS≠infS by decide]
 | fin q =>
  have c:=z2k h;have d:txt q≠infS:=by intro e;rw[e,y8d] at c;simp at c
  have g:txt q≠lowS:=by intro e;rw[e,y4a] at c;simp at c
  simp[rdV,vtxt,d,g,c]
theorem y2y {s:ByteArray} {v:V} (h:rdV s=some v):s=vtxt v/\fitV v:=by
 unfold rdV at h
 split at h
 ·rename_i e;have:=Option.some.inj h;subst this;exact⟨e,trivial⟩
 split at h
 ·rename_i e;have:=Option.some.inj h;subst this;exact⟨e,trivial⟩
 cases c:prs s with
 | none=>rw[c] at h;simp at h
 | some q=>rw[c] at h;simp at h;subst h;exact z2w c
theorem z3d {k:Int} {s:ByteArray} {v:V}:vprs k s=some v↔rdV s=some v/\okV k v:=by
 unfold vprs;rw[Option.filter_eq_some_iff];simp
theorem x5c {v w:V} (d:fitV v) (c:fitV w) (h:vtxt v=vtxt w):v=w:=by
 have:=y6x d;rw[h,y6x c] at this;exact(Option.some.inj this).symm
theorem x3u {k:Int} {v:V} (h:fitV v) (c:okV k v):vprs k (vtxt v)=some v:=z3d.2 ⟨y6x h,c⟩
theorem y2q {v:V} (h:fitV v):limV v=(vtxt v,0):=by cases v<;>first|rfl|exact z8w h
def leV:V->V->Prop
 | .low,_=>True
 | _,.inf=>True
 | .fin x,.fin y=>x<=y
 | _,_=>False
theorem z1j (x y:Rat):(x<y/\cmpQ x y=-1)\/(x=y/\cmpQ x y=0)\/(y<x/\cmpQ x y=1):=by
 unfold cmpQ;by_cases c:x<y
 ·left;rw[if_pos c];exact⟨c,rfl⟩
 by_cases d:x=y
 ·right;left;rw[if_neg c,if_pos d];exact⟨d,rfl⟩
 right;right;rw[if_neg c,if_neg d]
 refine⟨?_,rfl⟩;exact Rat.lt_of_le_of_ne (Rat.not_lt.1 c) (Ne.symm d)
theorem z4z (v w:V):cmpV v w<=0↔leV v w:=by
 cases v<;>cases w<;>simp[cmpV,leV]
 rename_i x y
 rcases z1j x y with ⟨h,e⟩|⟨h,e⟩|⟨h,e⟩<;>rw[e]
 ·simp[Rat.le_of_lt h]
 ·subst h;simp
 simp;exact Rat.not_le.2 h
theorem z8m (v w:V):cmpV v w=-1\/cmpV v w=0\/cmpV v w=1:=by
 cases v<;>cases w<;>simp[cmpV]
 rename_i x y
 rcases z1j x y with ⟨h,e⟩|⟨h,e⟩|⟨h,e⟩<;>simp[e]
theorem y5a (v w:V):cmpV v w=0↔v=w:=by
 cases v<;>cases w<;>simp[cmpV]
 rename_i x y
 rcases z1j x y with ⟨h,e⟩|⟨h,e⟩|⟨h,e⟩<;>rw[e]
 ·simp;exact Rat.ne_of_lt h
 ·simp[h]
 simp;exact Rat.ne_of_gt h
theorem y0g (v w:V):cmpV w v=- cmpV v w:=by
 cases v<;>cases w<;>simp[cmpV]
 rename_i x y
 rcases z1j x y with ⟨h,e⟩|⟨h,e⟩|⟨h,e⟩<;>rcases z1j y x with ⟨c,d⟩|⟨c,d⟩|⟨c,d⟩<;>rw[e,d]<;>try rfl
 ·exact absurd (Rat.le_of_lt c) (Rat.not_le.2 h)
 ·subst c;exact absurd h Rat.lt_irrefl
 ·subst h;exact absurd c Rat.lt_irrefl
 ·subst h;exact absurd c Rat.lt_irrefl
 ·subst c;exact absurd h Rat.lt_irrefl
 exact absurd (Rat.le_of_lt c) (Rat.not_le.2 h)
theorem z8s (v:V):leV v v:=by rw[<- z4z,(y5a v v).2 rfl];omega
theorem z1z (v w:V):leV v w\/leV w v:=by rw[<- z4z,<- z4z,y0g v w];omega
theorem z4s {v w:V} (d:leV v w) (c:leV w v):v=w:=by
 rw[<- z4z] at d c;rw[y0g v w] at c;exact(y5a v w).1 (by omega)
theorem z1c {u v w:V} (c:leV u v) (d:leV v w):leV u w:=by
 cases u<;>cases v<;>cases w<;>simp_all [leV]
 exact Rat.le_trans c d
noncomputable def minV (v w:V):V:=open Classical in if leV v w then v else w
noncomputable def maxV (v w:V):V:=open Classical in if leV w v then v else w
theorem u1n (v w:V):(if 0<cmpV v w then w else v)=minV v w:=by
 unfold minV;have:=z4z v w;by_cases h:leV v w
 ·rw[if_pos h,if_neg];have:=this.2 h;omega
 rw[if_neg h,if_pos];have:¬ cmpV v w<=0:=fun c=>h (this.1 c);omega
theorem v8u (v w:V):(if cmpV v w<0 then w else v)=maxV v w:=by
 unfold maxV;have:=z4z w v;rw[y0g v w] at this;by_cases h:leV w v
 ·rw[if_pos h,if_neg];have:=this.2 h;omega
 rw[if_neg h,if_pos];have:¬ -cmpV v w<=0:=fun c=>h (this.1 c);omega
theorem z4b {v w:V} (h:leV v w):minV v w=v:=by unfold minV;rw[if_pos h]
theorem z3v {v w:V} (h:leV w v):minV v w=w:=by
 unfold minV;by_cases c:leV v w
 ·rw[if_pos c];exact z4s c h
 rw[if_neg c]
theorem z3m {v w:V} (h:leV v w):maxV v w=w:=by
 unfold maxV;by_cases c:leV w v
 ·rw[if_pos c];exact z4s h c ▸ rfl
 rw[if_neg c]
theorem z3k {v w:V} (h:leV w v):maxV v w=v:=by unfold maxV;rw[if_pos h]
theorem x0c (v w:V):minV v w=minV w v:=by
 rcases z1z v w with h|h
 ·rw[z4b h,z3v h]
 rw[z3v h,z4b h]
theorem x0d (v w:V):maxV v w=maxV w v:=by
 rcases z1z v w with h|h
 ·rw[z3m h,z3k h]
 rw[z3k h,z3m h]
theorem x7c (u v w:V):minV (minV u v) w=minV u (minV v w):=by
 rcases z1z u v with c|c<;>rcases z1z v w with d|d
 ·rw[z4b c,z4b d,z4b c,z4b (z1c c d)]
 ·rw[z4b c,z3v d]
 ·rw[z3v c,z4b d,z3v c]
 rw[z3v c,z3v d,z3v (z1c d c)]
theorem x5p (u v w:V):maxV (maxV u v) w=maxV u (maxV v w):=by
 rcases z1z u v with c|c<;>rcases z1z v w with d|d
 ·rw[z3m c,z3m d,z3m (z1c c d)]
 ·rw[z3m c,z3k d,z3m c]
 ·rw[z3k c,z3m d]
 rw[z3k c,z3k d,z3k c,z3k (z1c d c)]
theorem v6t {f:V->V} (v w:V) (hf:∀ x y,(x=v\/x=w)->(y=v\/y=w)->leV x y->leV (f x) (f y)):f (minV v w)=minV (f v) (f w):=by
 rcases z1z v w with h|h
 ·rw[z4b h,z4b (hf v w (.inl rfl) (.inr rfl) h)]
 rw[z3v h,z3v (hf w v (.inr rfl) (.inl rfl) h)]
theorem v6g {f:V->V} (v w:V) (hf:∀ x y,(x=v\/x=w)->(y=v\/y=w)->leV x y->leV (f x) (f y)):f (maxV v w)=maxV (f v) (f w):=by
 rcases z1z v w with h|h
 ·rw[z3m h,z3m (hf v w (.inl rfl) (.inr rfl) h)]
 rw[z3k h,z3k (hf w v (.inr rfl) (.inl rfl) h)]
theorem z7s (v w:V):z1k 1 v w=minV v w:=by unfold z1k;rw[if_neg (by decide),if_pos rfl,u1n]
theorem z6c (v w:V):z1k 2 v w=addV v w:=by unfold z1k;rw[if_pos rfl]
theorem z7v (v w:V):z1k 3 v w=maxV v w:=by unfold z1k;rw[if_neg (by decide),if_neg (by decide),v8u]
theorem z4a {k:Int} {v:V} (h:okV k v):k=1\/k=2\/k=3:=by
 cases v<;>simp only[okV] at h<;>omega
theorem z0q {k:Int} {v:V} (h:okV k v) (c:k≠1):v≠.low:=by
 intro e;subst e;exact c h
theorem z2h {k:Int} {v:V} (h:okV k v) (c:k≠1):v=.inf\/∃ q,v=.fin q/\0<=q:=by
 cases v with
 | inf=>exact .inl rfl
 | low=>exact absurd h c
 | fin q=>right;refine⟨q,rfl,?_⟩;simp only[okV] at h;rcases h with h|h;exact absurd h c;exact h.2
theorem okV23' {k:Int} (c:k=2\/k=3) {q:Rat} (h:0<=q):okV k (.fin q):=.inr ⟨c,h⟩
theorem times1 (v w:V):z0i 1 v w=match v,w with
  | .inf,_=>.inf
  | _,.inf=>.inf
  | .low,_=>.low
  | _,.low=>.low
  | .fin x,.fin y=>.fin (x+y):=by
 unfold z0i zeroV;cases v<;>cases w<;>simp
def mulV (v w:V):V :=
 if v=.fin 0\/w=.fin 0 then .fin 0 else match v,w with
  | .fin x,.fin y=>.fin (x*y)
  | _,_=>.inf
theorem times23 {k:Int} (c:k≠1) {v w:V} (g:v≠.low) (d:w≠.low):z0i k v w=mulV v w:=by
 unfold z0i mulV zeroV;rw[if_neg c];by_cases h:v=.fin 0\/w=.fin 0
 ·rw[if_pos h,if_pos h]
 rw[if_neg h,if_neg h];cases v<;>cases w<;>simp_all
theorem y3w (v w:V):z0i 1 v w=z0i 1 w v:=by
 rw[times1,times1];cases v<;>cases w<;>simp;exact Rat.add_comm ..
theorem y9s (u v w:V):z0i 1 (z0i 1 u v) w=z0i 1 u (z0i 1 v w):=by
 simp only[times1];cases u<;>cases v<;>cases w<;>simp;exact Rat.add_assoc ..
theorem z9t (u:V) {v w:V} (h:leV v w):leV (z0i 1 u v) (z0i 1 u w):=by
 simp only[times1];cases u<;>cases v<;>cases w<;>simp_all [leV]
 exact Rat.add_le_add_left.2 h
theorem v2u (v w:V):mulV v w=mulV w v:=by
 unfold mulV;by_cases h:v=V.fin 0\/w=V.fin 0
 ·rw[if_pos h,if_pos h.symm]
 rw[if_neg h,if_neg (fun e=>h e.symm)];cases v<;>cases w<;>simp;exact Rat.mul_comm ..
theorem z1y (v:V):mulV v (.fin 0)=.fin 0:=by unfold mulV;simp
theorem z2f (v:V):mulV (.fin 0) v=.fin 0:=by unfold mulV;simp
theorem z1e (x y:Rat):mulV (.fin x) (.fin y)=.fin (x*y):=by
 unfold mulV;split
 ·rename_i h
  rcases h with h|h<;>(injection h with h;subst h;simp)
 rfl
theorem z1v {y:Rat} (h:y≠0):mulV .inf (.fin y)=.inf:=by unfold mulV;simp[h]
theorem z2b {y:Rat} (h:y≠0):mulV (.fin y) .inf=.inf:=by unfold mulV;simp[h]
theorem z3r:mulV .inf .inf=.inf:=by unfold mulV;simp
theorem x6y {u v w:V} (l:u≠.low) (k:v≠.low) (i:w≠.low):mulV (mulV u v) w=mulV u (mulV v w):=by
 by_cases c:u=.fin 0
 ·subst c;simp only[z2f]
 by_cases d:v=.fin 0
 ·subst d;simp only[z2f,z1y]
 by_cases g:w=.fin 0
 ·subst g;simp only[z1y]
 have inj:∀ {x:Rat},V.fin x≠V.fin 0->x≠0:=fun h e=>h (by rw[e]);cases u with
 | low=>exact absurd rfl l
 | inf =>
  cases v with
  | low=>exact absurd rfl k
  | inf=>cases w with
   | low=>exact absurd rfl i
   | inf=>rfl
   | fin z=>rw[z3r,z1v (inj g),z3r]
  | fin y=>cases w with
   | low=>exact absurd rfl i
   | inf=>rw[z1v (inj d),z2b (inj d)]
   | fin z =>
    rw[z1v (inj d),z1v (inj g),z1e,z1v];intro e;rcases Rat.mul_eq_zero.1 e with e|e
    ·exact inj d e
    exact inj g e
 | fin x =>
  cases v with
  | low=>exact absurd rfl k
  | inf=>cases w with
   | low=>exact absurd rfl i
   | inf=>rw[z2b (inj c),z3r,z2b (inj c)]
   | fin z=>rw[z2b (inj c),z1v (inj g),z2b (inj c)]
  | fin y =>
   have j:x*y≠0:=by
    intro e;rcases Rat.mul_eq_zero.1 e with e|e
    ·exact inj c e
    exact inj d e
   cases w with
   | low=>exact absurd rfl i
   | inf=>rw[z1e,z2b j,z2b (inj d),z2b (inj c)]
   | fin z=>rw[z1e,z1e,z1e,z1e,Rat.mul_assoc]
theorem y3u {u v w:V} (l:u=.inf\/∃ q,u=.fin q/\0<=q) (j:v=.inf\/∃ q,v=.fin q/\0<=q) (k:w=.inf\/∃ q,w=.fin q/\0<=q) (h:leV v w):leV (mulV u v) (mulV u w):=by
 rcases l with rfl|⟨x,rfl,o⟩
 ·rcases k with rfl|⟨z,rfl,m⟩
  ·rw[z3r];cases mulV .inf v<;>simp[leV]
  rcases j with rfl|⟨y,rfl,i⟩
  ·exact h.elim
  by_cases g:y=0
  ·subst g;rw[z1y];by_cases c:z=0
   ·subst c;rw[z1y];exact z8s _
   rw[z1v c];trivial
  have c:z≠0:=by
   intro e;subst e;exact g (Rat.le_antisymm h i)
  rw[z1v g,z1v c];trivial
 by_cases d:x=0
 ·subst d;rw[z2f,z2f];exact z8s _
 rcases k with rfl|⟨z,rfl,m⟩
 ·rw[z2b d];cases mulV (.fin x) v<;>simp[leV]
 rcases j with rfl|⟨y,rfl,i⟩
 ·exact h.elim
 rw[z1e,z1e];exact Rat.mul_le_mul_of_nonneg_left h o
theorem x7x (v w:V):addV v w=addV w v:=by cases v<;>cases w<;>simp[addV];exact Rat.add_comm ..
theorem x5r (u v w:V):addV (addV u v) w=addV u (addV v w):=by cases u<;>cases v<;>cases w<;>simp[addV];exact Rat.add_assoc ..
theorem v2y {u v w:V} (h:u=.inf\/∃ q,u=.fin q/\0<=q) (l:v=.inf\/∃ q,v=.fin q/\0<=q) (o:w=.inf\/∃ q,w=.fin q/\0<=q) :
  mulV u (addV v w)=addV (mulV u v) (mulV u w):=by
 rcases l with rfl|⟨y,rfl,j⟩
 ·by_cases d:u=.fin 0
  ·subst d;rw[z2f,z2f,z2f];simp[addV,Rat.add_zero]
  have:mulV u .inf=.inf:=by
   rcases h with rfl|⟨x,rfl,_⟩
   ·exact z3r
   exact z2b (fun e=>d (by rw[e]))
  have i:addV .inf w=.inf:=by cases w<;>rfl
  rw[i,this];cases mulV u w<;>rfl
 rcases o with rfl|⟨z,rfl,m⟩
 ·by_cases d:u=.fin 0
  ·subst d;rw[z2f,z2f,z2f];simp[addV,Rat.add_zero]
  have:mulV u .inf=.inf:=by
   rcases h with rfl|⟨x,rfl,_⟩
   ·exact z3r
   exact z2b (fun e=>d (by rw[e]))
  have i:addV (.fin y) .inf=.inf:=rfl;rw[i,this];cases mulV u (.fin y)<;>rfl
 rcases h with rfl|⟨x,rfl,p⟩
 ·simp only[addV];by_cases c:y=0
  ·subst c;rw[z1y,Rat.zero_add];by_cases g:z=0
   ·subst g;rw[z1y];simp[Rat.add_zero]
   rw[z1v g]
  have:y+z≠0:=by
   intro e;have k:y<=0:=by
    have:y+0<=y+z:=Rat.add_le_add_left.2 m;rw[e,Rat.add_zero] at this;exact this
   exact c (Rat.le_antisymm k j)
  rw[z1v c,z1v this]
 simp only[addV];rw[z1e,z1e,z1e,Rat.mul_add]
end
section
def szV (k:Nat):V->Prop
 | .fin q=>szQ k q
 | _=>True
theorem szV.fit {k:Nat} {v:V} (h:szV k v) (c:k<=400):fitV v:=by
 cases v<;>first|trivial|exact x8f.2 (szQ.mono h c)
theorem x3p {k:Nat} (c:1<=k):szQ k 0:=by
 have:1<10 ^ k:=Nat.one_lt_pow (by omega) (by omega);exact⟨by show (0:Int).natAbs<_;simp;omega,by show 1<_;exact this⟩
theorem u0w {k:Nat} (c:1<=k):szQ k 1:=by
 have:1<10 ^ k:=Nat.one_lt_pow (by omega) (by omega);exact⟨by show (1:Int).natAbs<_;simpa using this,by show 1<_;exact this⟩
theorem v5w (d:Int) {k:Nat} (c:1<=k):szV k (zeroV d):=by unfold zeroV;split;trivial;exact x3p c
theorem v9e (d:Int) {k:Nat} (c:1<=k):szV k (oneV d):=by unfold oneV;split;exact x3p c;exact u0w c
theorem v5s {k:Int} (c:k=1\/k=2\/k=3):okV k (zeroV k):=by
 unfold zeroV;split
 ·rename_i h;subst h;exact⟨by omega,by omega⟩
 right;exact⟨by omega,Rat.le_refl⟩
theorem v0z {k:Int} (c:k=1\/k=2\/k=3):okV k (oneV k):=by
 unfold oneV;split
 ·rename_i h;exact .inl h
 right;exact⟨by omega,by decide⟩
theorem z6z {k:Int} (c:k=1\/k=2\/k=3):okV k .inf:=⟨by omega,by omega⟩
theorem z9x {k:Int} {v w:V} (c:okV k v) (i:okV k w):okV k (z1k k v w):=by
 have d:=z4a c;unfold z1k
 split
 ·rename_i j
  rcases z2h c (by omega) with rfl|⟨x,rfl,h⟩
  ·exact z6z d
  rcases z2h i (by omega) with rfl|⟨y,rfl,g⟩
  ·exact z6z d
  exact .inr ⟨by omega,Rat.add_nonneg h g⟩
 split<;>split<;>assumption
theorem z6n {k:Int} {v w:V} (d:okV k v) (h:okV k w):okV k (z0i k v w):=by
 have g:=z4a d;by_cases c:k=1
 ·subst c;rw[times1];cases v<;>cases w<;>simp[okV]
 rw[times23 c (z0q d c) (z0q h c)];unfold mulV
 split
 ·exact .inr ⟨by omega,Rat.le_refl⟩
 rcases z2h d c with rfl|⟨x,rfl,j⟩
 ·exact z6z g
 rcases z2h h c with rfl|⟨y,rfl,i⟩
 ·exact z6z g
 exact .inr ⟨by omega,Rat.mul_nonneg j i⟩
theorem y6k {k:Int} {v w:V} (c:okV k v):z1k k v w=z1k k w v:=by
 rcases z4a c with rfl|rfl|rfl
 ·rw[z7s,z7s,x0c]
 ·rw[z6c,z6c,x7x]
 rw[z7v,z7v,x0d]
theorem z9h {k:Int} {u v w:V} (c:okV k v):z1k k (z1k k u v) w=z1k k u (z1k k v w):=by
 rcases z4a c with rfl|rfl|rfl
 ·simp only[z7s];rw[x7c]
 ·simp only[z6c];rw[x5r]
 simp only[z7v];rw[x5p]
theorem y3g {k:Int} {v w:V} (g:okV k v) (d:okV k w):z0i k v w=z0i k w v:=by
 by_cases c:k=1
 ·subst c;exact y3w v w
 rw[times23 c (z0q g c) (z0q d c),times23 c (z0q d c) (z0q g c),v2u]
theorem x0s {k:Int} {u v w:V} (g:okV k u) (d:okV k v) (h:okV k w):z0i k (z0i k u v) w=z0i k u (z0i k v w):=by
 by_cases c:k=1
 ·subst c;exact y9s u v w
 rw[times23 c (z0q (z6n g d) c) (z0q h c),times23 c (z0q g c) (z0q (z6n d h) c),times23 c (z0q g c) (z0q d c),times23 c (z0q d c) (z0q h c)];exact x6y (z0q g c) (z0q d c) (z0q h c)
theorem x1c {k:Int} {u v w:V} (d:okV k u) (g:okV k v) (i:okV k w) (h:leV v w):leV (z0i k u v) (z0i k u w):=by
 by_cases c:k=1
 ·subst c;exact z9t u h
 rw[times23 c (z0q d c) (z0q g c),times23 c (z0q d c) (z0q i c)];exact y3u (z2h d c) (z2h g c) (z2h i c) h
theorem x1u {k:Int} {u v w:V} (d:okV k u) (g:okV k v) (i:okV k w):z0i k u (z1k k v w)=z1k k (z0i k u v) (z0i k u w):=by
 have j:∀ x y,(x=v\/x=w)->(y=v\/y=w)->leV x y->leV (z0i k u x) (z0i k u y):=by
  intro x y m l h;refine x1c d ?_ ?_ h
  ·rcases m with rfl|rfl<;>assumption
  rcases l with rfl|rfl<;>assumption
 rcases z4a d with rfl|rfl|rfl
 ·rw[z7s,z7s];exact v6t (f:=z0i 1 u) v w j
 ·have c:(2:Int)≠1:=by decide
  rw[times23 c (z0q d c) (z0q (z9x g i) c),times23 c (z0q d c) (z0q g c),times23 c (z0q d c) (z0q i c),z6c,z6c];exact v2y (z2h d c) (z2h g c) (z2h i c)
 rw[z7v,z7v];exact v6g (f:=z0i 3 u) v w j
theorem x6k {k:Int} {v:V} (c:okV k v):z1k k v (zeroV k)=v:=by
 rcases z4a c with rfl|rfl|rfl
 ·rw[z7s];exact z4b (by cases v<;>trivial)
 ·rw[z6c];show addV v (.fin 0)=v
  rcases z2h c (by decide) with rfl|⟨x,rfl,d⟩
  ·rfl
  simp[addV,Rat.add_zero]
 rw[z7v];show maxV v (.fin 0)=v
 rcases z2h c (by decide) with rfl|⟨x,rfl,d⟩
 ·exact z3k trivial
 exact z3k d
theorem z8h {k:Int} {v:V} (d:okV k v):z0i k v (oneV k)=v:=by
 by_cases c:k=1
 ·subst c;rw[times1];cases v<;>simp[oneV,Rat.add_zero]
 rw[times23 c (z0q d c) (by simp[oneV,c])];have:oneV k=.fin 1:=by simp[oneV,c]
 rw[this]
 rcases z2h d c with rfl|⟨x,rfl,g⟩
 ·exact z1v (by decide)
 rw[z1e,Rat.mul_one]
theorem x1e (k:Int) (v:V):z0i k v (zeroV k)=zeroV k:=by unfold z0i;rw[if_pos (.inr rfl)]
theorem v3n {k:Int} (c:k=1\/k=2\/k=3):z1h k=vtxt (zeroV k):=by
 have:z3t k=true:=by unfold z3t;rcases c with rfl|rfl|rfl<;>rfl
 unfold z1h;rw[this];rfl
theorem v9a {k:Int} (c:k=1\/k=2\/k=3):oneF k=vtxt (oneV k):=by
 have:z3t k=true:=by unfold z3t;rcases c with rfl|rfl|rfl<;>rfl
 unfold oneF;rw[this];rfl
theorem y5s {k:Int} {a:ByteArray} (h:z0p k a=true):∃ v,vprs k a=some v:=by
 unfold z0p at h;exact Option.isSome_iff_exists.1 h
structure Laws (k:Int) (a b c ab bc l m o r d x:ByteArray):Prop where
 p1:z1i k a b=(ab,0)
 p2:z1i k b a=(ab,0)
 p3:z1i k b c=(bc,0)
 p4:z1i k ab c=(l,0)
 p5:z1i k a bc=(l,0)
 t1:z0n k a b=(m,0)
 t2:z0n k b a=(m,0)
 t3:z0n k b c=(o,0)
 t4:z0n k m c=(r,0)
 t5:z0n k a o=(r,0)
 q1:z0n k a bc=(d,0)
 q2:z0n k a c=(x,0)
 q3:z1i k m x=(d,0)
 q4:z1i k a (z1h k)=(a,0)
 q5:z0n k a (oneF k)=(a,0)
 q6:z0n k a (z1h k)=(z1h k,0)
theorem y2w {k:Int} {v:V} (i:okV k v):okV k (z1x k v)/\z1k k (oneV k) (z0i k v (z1x k v))=z1x k v:=by
 rcases z4a i with rfl|rfl|rfl
 ·have j:oneV 1=.fin 0:=rfl;rw[j,z7s];have g:z1x 1 v=if 0<=cmpV v (.fin 0) then .fin 0 else .low:=rfl
  rw[g]
  split
  ·rename_i h;refine⟨.inl rfl,?_⟩;have p:z0i 1 v (.fin 0)=v:=z8h (k:=1) i;rw[p];have:=y0g v (.fin 0);exact z4b ((z4z _ _).1 (by omega))
  rename_i h;refine⟨rfl,?_⟩;have:z0i 1 v .low=.low:=by
   rw[times1];cases v with
   | inf=>simp[cmpV] at h
   | low=>rfl
   | fin q=>rfl
  rw[this];exact z3v trivial
 ·have c:(2:Int)≠1:=by decide
  have j:oneV 2=.fin 1:=rfl;rw[j,z6c]
  rcases z2h i c with rfl|⟨x,rfl,z⟩
  ·have g:z1x 2 .inf=.inf:=rfl;rw[g,times23 c (by simp) (by simp),z3r];exact⟨z6z (.inr (.inl rfl)),rfl⟩
  have g:z1x 2 (.fin x)=if 0<=cmpQ x 1 then .inf else .fin (1 / (1-x)):=rfl
  rw[g]
  split
  ·rename_i h;refine⟨z6z (.inr (.inl rfl)),?_⟩;have d:x≠0:=by intro e;subst e;exact absurd h (by decide +kernel)
   rw[times23 c (by simp) (by simp),z2b d];rfl
  rename_i h;have o:x<1:=by rcases z1j x 1 with ⟨l,e⟩|⟨l,e⟩|⟨l,e⟩<;>first|exact l|(rw[e] at h;exact absurd h (by decide))
  have u:0<1-x:=(Rat.lt_iff_sub_pos x 1).1 o;have m:1-x≠0:=Rat.ne_of_gt u;refine⟨.inr ⟨.inl rfl,?_⟩,?_⟩
  ·rw[Rat.div_def,Rat.one_mul];exact Rat.le_of_lt (Rat.inv_pos.2 u)
  rw[times23 c (by simp) (by simp),z1e];show V.fin (1+x*(1 / (1-x)))=V.fin (1 / (1-x))
  congr 1
  rw[Rat.div_def,Rat.one_mul];have hi:=Rat.mul_inv_cancel (1-x) m;have s:(1-x)*(1-x)⁻¹+x*(1-x)⁻¹=(1-x)⁻¹:=by
   rw[<- Rat.add_mul,Rat.sub_add_cancel,Rat.one_mul]
  rw[hi] at s;exact s
 have c:(3:Int)≠1:=by decide
 have j:oneV 3=.fin 1:=rfl;rw[j,z7v];have g:z1x 3 v=if cmpV v (.fin 1)<=0 then .fin 1 else .inf:=rfl
 rw[g]
 split
 ·rename_i h;refine⟨.inr ⟨.inr rfl,by decide⟩,?_⟩;have p:z0i 3 v (.fin 1)=v:=z8h (k:=3) i;rw[p];exact z3k ((z4z _ _).1 h)
 rename_i h;refine⟨z6z (.inr (.inr rfl)),?_⟩;rw[times23 c (z0q i c) (by simp)]
 rcases z2h i c with rfl|⟨x,rfl,z⟩
 ·rw[z3r];exact z3m trivial
 have d:x≠0:=by intro e;subst e;exact absurd h (by decide +kernel)
 rw[z2b d];exact z3m trivial
structure Order (k:Int) (a b c s x y:ByteArray) (p:Int):Prop where
 pe:y3s k a b=p
 lo:-1<=p
 hi:p<=1
 sw:y3s k b a=-p
 eq:p=0↔a=b
 tr:p<=0->y3s k b c<=0->y3s k a c<=0
 se:z1i k a b=(s,0)
 s1:k≠2->p<=0->s=a
 s2:k≠2->0<p->s=b
 xe:z0n k a c=(x,0)
 ye:z0n k b c=(y,0)
 xy:p<=0->y3s k x y<=0
theorem v8k {k:Int} {v:V} (h:wtV k v):∃ q,v=.fin q/\(k=1\/((k=2\/k=3)/\0<q)):=by cases v<;>first|exact h.elim|exact⟨_,rfl,h⟩
theorem u2g {k:Int} {v:V} (h:wtV k v):okV k v:=by
 obtain⟨q,rfl,h⟩:=v8k h
 rcases h with h|⟨h,c⟩
 ·exact .inl h
 exact .inr ⟨h,Rat.le_of_lt c⟩
theorem x1n {k:Int} {a:ByteArray} (h:z0s k a=true):∃ v,rdV a=some v/\wtV k v:=by
 unfold z0s at h;cases c:rdV a with
 | none=>rw[c] at h;simp at h
 | some v=>rw[c] at h;exact⟨v,rfl,of_decide_eq_true h⟩
end
section
class CSR (R:Type) where
 add:R->R->R
 mul:R->R->R
 zero:R
 one:R
 star:R->R
 add_comm:∀ a b,add a b=add b a
 add_assoc:∀ a b c,add (add a b) c=add a (add b c)
 add_zero:∀ a,add a zero=a
 mul_comm:∀ a b,mul a b=mul b a
 mul_assoc:∀ a b c,mul (mul a b) c=mul a (mul b c)
 mul_one:∀ a,mul a one=a
 mul_zero:∀ a,mul a zero=zero
 mul_add:∀ a b c,mul a (add b c)=add (mul a b) (mul a c)
 star_eq:∀ a,star a=add one (mul a (star a))
 park:∀ a b x c,x=add (add (mul a x) b) c->∃ d,x=add (mul (star a) b) d
 anti:∀ a b c d,b=add a c->a=add b d->a=b
namespace CSR
section
variable {R:Type} [CSR R]
instance instAdd:Add R:=⟨add⟩
instance instMul:Mul R:=⟨mul⟩
theorem aC (a b:R):a+b=b+a:=add_comm a b
theorem aA (a b c:R):a+b+c=a+(b+c):=add_assoc a b c
theorem aL (a b c:R):a+(b+c)=b+(a+c):=by rw[<- aA,aC a b,aA]
theorem a0 (a:R):a+zero=a:=add_zero a
theorem z0 (a:R):zero+a=a:=by rw[aC,a0]
theorem mC (a b:R):a*b=b*a:=mul_comm a b
theorem mA (a b c:R):a*b*c=a*(b*c):=mul_assoc a b c
theorem m1 (a:R):a*one=a:=mul_one a
theorem o1 (a:R):one*a=a:=by rw[mC,m1]
theorem m0 (a:R):a*zero=zero:=mul_zero a
theorem zm (a:R):zero*a=zero:=by rw[mC,m0]
theorem mD (a b c:R):a*(b+c)=a*b+a*c:=mul_add a b c
theorem dM (a b c:R):(a+b)*c=a*c+b*c:=by rw[mC,mD,mC c a,mC c b]
theorem sE (a:R):star a=one+a*star a:=star_eq a
def le (a b:R):Prop:=∃ c,b=a+c
theorem le_refl (a:R):le a a:=⟨zero,(a0 a).symm⟩
theorem le_add (a b:R):le a (a+b):=⟨b,rfl⟩
theorem le_trans {a b c:R} (h:le a b) (k:le b c):le a c:=by
 obtain⟨x,rfl⟩:=h;obtain⟨y,rfl⟩:=k;exact⟨x+y,aA ..⟩
theorem le_plus {a b c d:R} (h:le a b) (k:le c d):le (a+c) (b+d):=by
 obtain⟨x,rfl⟩:=h;obtain⟨y,rfl⟩:=k;exact⟨x+y,by rw[aA,aA,aL x c y]⟩
theorem le_times {a b:R} (c:R) (h:le a b):le (c*a) (c*b):=by
 obtain⟨x,rfl⟩:=h;exact⟨c*x,mD ..⟩
theorem le_anti {a b:R} (h:le a b) (k:le b a):a=b:=by
 obtain⟨x,d⟩:=h;obtain⟨y,c⟩:=k;exact anti a b x y d c
def sum (f:Nat->R):Nat->R
 | 0=>zero
 | n+1=>sum f n+f n
theorem sum_congr {f g:Nat->R} {n:Nat} (h:∀ i,i<n->f i=g i):sum f n=sum g n:=by
 induction n with
 | zero=>rfl
 | succ n ih=>simp only[sum];rw[ih (fun i hi=>h i (by omega)),h n (by omega)]
theorem sum_zero (n:Nat):sum (fun _=>(zero:R)) n=zero:=by
 induction n with
 | zero=>rfl
 | succ n ih=>simp only[sum];rw[ih,a0]
theorem sum_add (f g:Nat->R) (n:Nat):sum (fun i=>f i+g i) n=sum f n+sum g n:=by
 induction n with
 | zero=>exact(a0 _).symm
 | succ n ih=>simp only[sum];rw[ih,aA,aA,aL (sum g n)]
theorem mul_sum (a:R) (f:Nat->R) (n:Nat):a*sum f n=sum (fun i=>a*f i) n:=by
 induction n with
 | zero=>exact m0 a
 | succ n ih=>simp only[sum];rw[mD,ih]
theorem sum_mul (a:R) (f:Nat->R) (n:Nat):sum f n*a=sum (fun i=>f i*a) n:=by
 rw[mC,mul_sum];exact sum_congr fun i _=>mC _ _
theorem sum_pick (f:Nat->R) {n p:Nat} (c:p<n):sum f n=f p+sum (fun i=>if i=p then zero else f i) n:=by
 induction n with
 | zero=>omega
 | succ n ih =>
  simp only[sum];by_cases e:p=n
  ·subst e;rw[if_pos rfl,a0,sum_congr (g:=fun i=>if i=p then zero else f i) (fun i hi=>by rw[if_neg (by omega)]),aC]
  rw[if_neg (by omega),ih (by omega),aA]
theorem sum_single (f:Nat->R) {n p:Nat} (c:p<n) (h:∀ i,i<n->i≠p->f i=zero):sum f n=f p:=by
 rw[sum_pick f c,sum_congr (g:=fun _=>zero) (fun i hi=>by split;rfl;exact h i hi (by assumption)),sum_zero,a0]
theorem sum_le {f g:Nat->R} {n:Nat} (h:∀ i,i<n->le (f i) (g i)):le (sum f n) (sum g n):=by
 induction n with
 | zero=>exact le_refl _
 | succ n ih=>exact le_plus (ih fun i hi=>h i (by omega)) (h n (by omega))
def elim (p:Nat) (M:Nat->Nat->R):Nat->Nat->R:=fun i j=>M i j+M i p*star (M p p)*M p j
def elims (M:Nat->Nat->R):Nat->Nat->Nat->R
 | 0=>M
 | p+1=>elim p (elims M p)
def eye (i j:Nat):R:=if i=j then one else zero
def starM (M:Nat->Nat->R) (n:Nat):Nat->Nat->R:=fun i j=>elims M n i j+eye i j
theorem elims_first (M:Nat->Nat->R) (p i j:Nat):elims M p i j=M i j+sum (fun k=>M i k*elims M p k j) p:=by
 induction p generalizing j with
 | zero=>exact(a0 _).symm
 | succ p ih =>
  have c:=ih;generalize hNN:elims M p=N at c;have h:elims M (p+1)=elim p N:=by rw[<- hNN];rfl
  rw[h];simp only[sum];have g:sum (fun k=>M i k*elim p N k j) p=sum (fun k=>M i k*N k j) p+sum (fun k=>M i k*N k p) p*(star (N p p)*N p j):=by
   rw[sum_mul,<- sum_add];refine sum_congr fun k _=>?_;show M i k*(N k j+N k p*star (N p p)*N p j)=_;rw[mD,mA,mA]
  have d:M i p*elim p N p j=M i p*(star (N p p)*N p j):=by
   show M i p*(N p j+N p p*star (N p p)*N p j)=_
   congr 1
   conv=>rhs;rw[sE (N p p)]
   rw[dM,o1]
  rw[g,d];show N i j+N i p*star (N p p)*N p j=_;rw[aA,<- dM,<- aA,aC (sum _ _) (M i p),<- c j,<- c p,mA]
theorem starM_left (M:Nat->Nat->R) {n i j:Nat} (c:j<n):starM M n i j=eye i j+sum (fun k=>M i k*starM M n k j) n:=by
 have h:sum (fun k=>M i k*starM M n k j) n=sum (fun k=>M i k*elims M n k j) n+M i j:=by
  show sum (fun k=>M i k*(elims M n k j+eye k j)) n=_;rw[sum_congr (g:=fun k=>M i k*elims M n k j+M i k*eye k j) (fun k _=>mD ..),sum_add]
  congr 1
  rw[sum_single _ c (fun k _ d=>by show M i k*eye k j=_;rw[eye,if_neg d,m0])];show M i j*eye j j=_;rw[eye,if_pos rfl,m1]
 rw[h,aC (sum _ _),<- elims_first,aC];rfl
theorem elims_congr {M M':Nat->Nat->R} {n:Nat} (h:∀ i j,i<n->j<n->M i j=M' i j) {p:Nat} (d:p<=n):∀ i j,i<n->j<n->elims M p i j=elims M' p i j:=by
 induction p with
 | zero=>exact h
 | succ p ih =>
  intro i j hi c;show elim p _ i j=elim p _ i j;unfold elim;rw[ih (by omega) i j hi c,ih (by omega) i p hi (by omega),ih (by omega) p p (by omega) (by omega),ih (by omega) p j (by omega) c]
theorem starM_congr {M M':Nat->Nat->R} {n:Nat} (h:∀ i j,i<n->j<n->M i j=M' i j):∀ i j,i<n->j<n->starM M n i j=starM M' n i j:=by
 intro i j hi c;unfold starM;rw[elims_congr h (Nat.le_refl n) i j hi c]
def sumFrom (f:Nat->R) (p n:Nat):R:=sum (fun k=>if k<p then zero else f k) n
theorem sumFrom_zero (f:Nat->R) (n:Nat):sumFrom f 0 n=sum f n:=sum_congr fun k _=>by rw[if_neg (by omega)]
theorem sumFrom_end (f:Nat->R) (n:Nat):sumFrom f n n=zero:=by
 rw[sumFrom,sum_congr (g:=fun _=>zero) (fun k c=>by rw[if_pos c]),sum_zero]
theorem sumFrom_step (f:Nat->R) {p n:Nat} (g:p<n):sumFrom f p n=f p+sumFrom f (p+1) n:=by
 unfold sumFrom;rw[sum_pick _ g,if_neg (by omega)]
 congr 1
 exact sum_congr fun k _=>by
  by_cases c:k=p
  ·rw[if_pos c,if_pos (by omega)]
  rw[if_neg c];by_cases d:k<p
  ·rw[if_pos d,if_pos (by omega)]
  rw[if_neg d,if_neg (by omega)]
end
end CSR
end
section
def KK:Type:={ k:Int // k=1\/k=2\/k=3 }
def RK (k:KK):Type:={ v:V // okV k.1 v }
theorem y5x {k:Int} {u c:V} (d:okV k u) (i:okV k c):if k=1 then leV (z1k k u c) u else leV u (z1k k u c):=by
 rcases z4a d with rfl|rfl|rfl
 ·rw[if_pos rfl,z7s];unfold minV;split
  ·exact z8s _
  rcases z1z u c with h|h
  ·contradiction
  exact h
 ·rw[if_neg (by decide),z6c]
  rcases z2h d (by decide) with rfl|⟨x,rfl,j⟩
  ·exact trivial
  rcases z2h i (by decide) with rfl|⟨y,rfl,g⟩
  ·exact trivial
  show x<=x+y;have:=Rat.add_le_add_left (c:=x).2 g
  rwa [Rat.add_zero] at this
 rw[if_neg (by decide),z7v];unfold maxV;split
 ·exact z8s _
 rcases z1z u c with h|h
 ·exact h
 contradiction
theorem v7m {k:Int} {u v:V} (g:okV k u) (d:okV k v) (h:if k=1 then leV v u else leV u v):∃ c,okV k c/\v=z1k k u c:=by
 rcases z4a g with rfl|rfl|rfl
 ·rw[if_pos rfl] at h;exact⟨v,d,by rw[z7s,z3v h]⟩
 ·rw[if_neg (by decide)] at h
  rcases z2h g (by decide) with rfl|⟨x,rfl,j⟩
  ·refine⟨.inf,z6z (.inr (.inl rfl)),?_⟩
   rcases z2h d (by decide) with rfl|⟨y,rfl,i⟩
   ·rfl
   exact h.elim
  rcases z2h d (by decide) with rfl|⟨y,rfl,i⟩
  ·exact⟨.inf,z6z (.inr (.inl rfl)),by rw[z6c];rfl⟩
  refine⟨.fin (y-x),.inr ⟨.inl rfl,(Rat.le_iff_sub_nonneg x y).1 h⟩,?_⟩;rw[z6c];show V.fin y=V.fin (x+(y-x));congr 1;rw[Rat.add_comm,Rat.sub_add_cancel]
 rw[if_neg (by decide)] at h;exact⟨v,d,by rw[z7v,z3m h]⟩
theorem x3n {k:Int} {a x b c:V} (j:okV k a) (l:okV k x) (hb:okV k b) (g:okV k c) (h:x=z1k k (z1k k (z0i k a x) b) c) :
  (if k=1 then leV x (z0i k a x) else leV (z0i k a x) x)/\(if k=1 then leV x b else leV b x):=by
 have d:okV k (z0i k a x):=z6n j l;have i:=y5x d (z9x hb g);have bx:=y5x hb (z9x d g);have m:z1k k (z0i k a x) (z1k k b c)=x:=by rw[<- z9h hb,<- h]
 have o:z1k k b (z1k k (z0i k a x) c)=x:=by rw[<- z9h d,y6k hb,<- h]
 rw[m] at i;rw[o] at bx;exact⟨i,bx⟩
theorem y4b {k:Int} {v:V} (c:okV k v) (d:k=1\/k=2\/k=3):z0i k (oneV k) v=v:=by
 rw[y3g (v0z d) c];exact z8h c
theorem park1 {a x b:V} (u:okV 1 a) (z:okV 1 x) (hb:okV 1 b) (g:leV x (z0i 1 a x)) (i:leV x b):leV x (z0i 1 (z1x 1 a) b):=by
 have s:z1x 1 a=if 0<=cmpV a (.fin 0) then .fin 0 else .low:=rfl
 rw[s]
 split
 ·have:z0i 1 (.fin 0) b=b:=y4b (k:=1) hb (.inl rfl);rw[this];exact i
 rename_i p;have d:leV a (.fin 0):=(z4z _ _).1 (by omega);cases b with
 | inf=>cases x<;>trivial
 | low=>rw[times1];exact i
 | fin q =>
  rw[times1];cases x with
  | low=>trivial
  | inf=>exact i.elim
  | fin y =>
   exfalso
   rw[times1] at g;cases a with
   | inf=>exact d.elim
   | low=>exact g.elim
   | fin r =>
    have m:r<=0:=d;have h:r≠0:=by intro e;subst e;exact p (by decide +kernel)
    have l:y<=r+y:=g;have o:r<0:=Rat.lt_of_le_of_ne m h;have j:=Rat.add_lt_add_right (c:=y).2 o;rw[Rat.zero_add] at j;exact absurd l (Rat.not_le.2 j)
theorem park3 {a x b:V} (s:okV 3 a) (p:okV 3 x) (hb:okV 3 b) (g:leV (z0i 3 a x) x) (m:leV b x):leV (z0i 3 (z1x 3 a) b) x:=by
 have C:z1x 3 a=if cmpV a (.fin 1)<=0 then .fin 1 else .inf:=rfl
 have c:(3:Int)≠1:=by decide
 rw[C]
 split
 ·have:z0i 3 (.fin 1) b=b:=y4b (k:=3) hb (.inr (.inr rfl));rw[this];exact m
 rename_i z;rw[times23 c (by simp) (z0q hb c)];rw[times23 c (z0q s c) (z0q p c)] at g
 rcases z2h p c with rfl|⟨y,rfl,o⟩
 ·cases (mulV .inf b)<;>trivial
 rcases z2h hb c with rfl|⟨q,rfl,B⟩
 ·exact m.elim
 by_cases i:q=0
 ·subst i;rw[z1y];exact o
 exfalso
 have d:q<=y:=m;have l:0<q:=Rat.lt_of_le_of_ne B (fun e=>i e.symm);have h:0<y:=by
  refine Rat.lt_of_le_of_ne o (fun e=>?_);rw[<- e] at d;exact absurd d (Rat.not_le.2 l)
 have j:y≠0:=Rat.ne_of_gt h
 rcases z2h s c with rfl|⟨r,rfl,D⟩
 ·rw[z1v j] at g;exact g.elim
 rw[z1e] at g;have A:r*y<=1*y:=by rw[Rat.one_mul];exact g
 have u:r<=1:=Rat.le_of_mul_le_mul_right A h;exact z ((z4z _ _).2 u)
theorem park2 {a x b:V} (m:okV 2 a) (A:okV 2 x) (hb:okV 2 b) (h:leV (addV (z0i 2 a x) b) x):leV (z0i 2 (z1x 2 a) b) x:=by
 have n2:(2:Int)≠1:=by decide
 have u:okV 2 (z1x 2 a):=(y2w m).1;rw[times23 n2 (z0q u n2) (z0q hb n2)];rw[times23 n2 (z0q m n2) (z0q A n2)] at h
 rcases z2h A n2 with rfl|⟨y,rfl,z⟩
 ·cases (mulV (z1x 2 a) b)<;>trivial
 rcases z2h hb n2 with rfl|⟨s,rfl,D⟩
 ·have:addV (mulV a (.fin y)) .inf=.inf:=by cases (mulV a (.fin y))<;>rfl
  rw[this] at h;exact h.elim
 rcases z2h m n2 with rfl|⟨r,rfl,G⟩
 ·have e:z1x 2 .inf=.inf:=rfl;rw[e];by_cases k:y=0
  ·subst k;rw[z1y] at h;have j:(0:Rat)+s<=0:=h;rw[Rat.zero_add] at j;have:s=0:=Rat.le_antisymm j D;subst this;rw[z1y];exact Rat.le_refl
  rw[z1v k] at h;exact h.elim
 rw[z1e] at h;have j:r*y+s<=y:=h;have e:z1x 2 (.fin r)=if 0<=cmpQ r 1 then .inf else .fin (1 / (1-r)):=rfl
 rw[e]
 split
 ·rename_i i;have l:1<=r:=by
   rcases z1j r 1 with ⟨g,d⟩|⟨g,d⟩|⟨g,d⟩
   ·rw[d] at i;exact absurd i (by decide)
   ·rw[g];exact Rat.le_refl
   exact Rat.le_of_lt g
  have B:1*y<=r*y:=Rat.mul_le_mul_of_nonneg_right l z;rw[Rat.one_mul] at B;have E:r*y+s<=r*y+0:=by rw[Rat.add_zero];exact Rat.le_trans j B
  have F:s<=0:=Rat.add_le_add_left.1 E;have:s=0:=Rat.le_antisymm F D;subst this;rw[z1y];exact z
 rename_i i;have p:r<1:=by
  rcases z1j r 1 with ⟨g,d⟩|⟨g,d⟩|⟨g,d⟩
  ·exact g
  ·rw[d] at i;exact absurd (by decide) i
  rw[d] at i;exact absurd (by decide) i
 have C:0<1-r:=(Rat.lt_iff_sub_pos r 1).1 p;have o:1-r≠0:=Rat.ne_of_gt C;rw[z1e];show 1 / (1-r)*s<=y;refine Rat.le_of_mul_le_mul_left (c:=1-r) ?_ C;rw[<- Rat.mul_assoc,Rat.div_def,Rat.one_mul,Rat.mul_inv_cancel _ o,Rat.one_mul];rw[Rat.sub_eq_add_neg,Rat.add_mul,Rat.one_mul,Rat.neg_mul,<- Rat.sub_eq_add_neg];refine Rat.le_sub_iff.2 ?_;rw[Rat.add_comm];exact j
theorem v5k {k:Int} {a x b c:V} (g:okV k a) (i:okV k x) (hb:okV k b) (m:okV k c) (h:x=z1k k (z1k k (z0i k a x) b) c) :
  ∃ d,okV k d/\x=z1k k (z0i k (z1x k a) b) d:=by
 have o:=(y2w g).1;refine v7m (z6n o hb) i ?_
 rcases z4a g with rfl|rfl|rfl
 ·obtain⟨j,l⟩:=x3n g i hb m h;rw[if_pos rfl] at j l ⊢;exact park1 g i hb j l
 ·rw[if_neg (by decide)];have:=y5x (z9x (z6n g i) hb) m;rw[<- h,if_neg (by decide),z6c] at this;exact park2 g i hb this
 obtain⟨j,l⟩:=x3n g i hb m h;rw[if_neg (by decide)] at j l ⊢;exact park3 g i hb j l
theorem v4q {k:Int} {a b c d:V} (h:okV k a) (hb:okV k b) (l:okV k c) (j:okV k d) (i:b=z1k k a c) (m:a=z1k k b d):a=b:=by
 have x:=y5x h l;have y:=y5x hb j;rw[<- i] at x;rw[<- m] at y;by_cases g:k=1
 ·rw[if_pos g] at x y;exact z4s y x
 rw[if_neg g] at x y;exact z4s x y
namespace RK
variable {k:KK}
theorem ext {a b:RK k} (h:a.1=b.1):a=b:=Subtype.ext h
instance csr:CSR (RK k) where
 add a b:=⟨z1k k.1 a.1 b.1,z9x a.2 b.2⟩
 mul a b:=⟨z0i k.1 a.1 b.1,z6n a.2 b.2⟩
 zero:=⟨zeroV k.1,v5s k.2⟩
 one:=⟨oneV k.1,v0z k.2⟩
 star a:=⟨z1x k.1 a.1,(y2w a.2).1⟩
 add_comm a _:=ext (y6k a.2)
 add_assoc _ b _:=ext (z9h b.2)
 add_zero a:=ext (x6k a.2)
 mul_comm a b:=ext (y3g a.2 b.2)
 mul_assoc a b c:=ext (x0s a.2 b.2 c.2)
 mul_one a:=ext (z8h a.2)
 mul_zero a:=ext (x1e k.1 a.1)
 mul_add a b c:=ext (x1u a.2 b.2 c.2)
 star_eq a:=ext (y2w a.2).2.symm
 park a b x c h:=by
  obtain⟨d,hd,e⟩:=v5k a.2 x.2 b.2 c.2 (congrArg Subtype.val h);exact⟨⟨d,hd⟩,ext e⟩
 anti a b c d h1 h2:=ext (v4q a.2 b.2 c.2 d.2 (congrArg Subtype.val h1) (congrArg Subtype.val h2))
end RK
end
end Go.Proofs.YteappjogmnogcaaGreatDoor
