/- Parts. -/
import Derived.Lib.Hide
import Derived.Deep.RegionHeld2
import Derived.Lib.ItoaLen
import Derived.Test.YtpldocnhbdlgfaaGreatDoorProg
import Derived.WalkSpells
import Derived.WalkLawsBesides
import Derived.Lib.Strings
namespace Go.Proofs.YtpldocnhbdlgfaaGreatDoor
set_option maxRecDepth 100000
set_option linter.all false
set_option maxHeartbeats 16000000
open Go Tryz
def Hd(p : Prop): Prop := p
theorem Hd.o{p : Prop}(h : Hd p): p := h
def qh{p : Prop}(h : p): Hd p := h
def exq{α : Sort _}(e : α): ∃x, x = e := ⟨e, rfl⟩
def nlr{n : Nat}: n ≤ n := Nat.le_refl n
def blr{B : Nat}{w : World}: RowKit.Below B w w := RowKit.Below.refl B w
def nxa{P : Program}{f : FuncId}{ar : Array Value}{w : World}{R : Ending}{Q : Ending → World → Prop}(h : Calls P f ar w (λe w' => e = R ∧ RowKit.Below w.heap.size w w'))(k : ∀w', Hd (RowKit.Below w.heap.size w w') → Q R w'): Calls P f ar w Q :=
  h.mono λe w' he => by rw [he.1]; exact k w' he.2
def nxb{P : Program}{f : FuncId}{ar : Array Value}{w0 w : World}{R : Ending}{Q : Ending → World → Prop}(h : Calls P f ar w (λe w' => e = R ∧ RowKit.Below w.heap.size w w'))(B : Hd (RowKit.Below w0.heap.size w0 w))(k : ∀w', Hd (RowKit.Below w0.heap.size w0 w') → Q R w'): Calls P f ar w Q :=
  h.mono λe w' he => by rw [he.1]; exact k w' (RowKit.Below.trans B (he.2.mono (RowKit.Below.size B)))
abbrev Ad(b o : Nat): Addr := ⟨b, o, none⟩
def ifn:=@if_neg
def ifp:=@if_pos
def nzl{n:Nat}:0<=n:=Nat.zero_le n
def lbk{w:World}{b:Nat}{o:Obj}(h:w.heap[b]?=some o):b<w.heap.size:=(Array.getElem?_eq_some_iff.1 h).1
def han(w:World)(o:Obj):(w.alloc o).heap[w.heap.size]?=some o:=by show (w.heap.push o)[w.heap.size]?=some o;simp
section
open Go.RowKit
section
variable{P:Program}{ops:Array Oper}{Q:Exit->Act->World->Prop}
def Bl{i:Nat}{o:Oper}{K:Act->World->Prop}{a:Act}{w:World}(g:ops[i]?=some o)(d:o.guard=none)(h:∀K':Act->World->Prop,(∀a w,K a w->K' a w)->Oper.wp P o a w K' Q):wpOp P ops Q i K a w :=
 wpOp_step g λK' c=>by
  rw[ifp (by simp[Region.wanted,d])];exact h K' c
end
end
section
open Go.RowKit
variable{n:Nat}
def dgt(c:UInt8):Bool:=decide (48<=c.toNat)&&decide (c.toNat<=57)
def dgts(l:List UInt8):Bool:=l.all dgt
def As(l:List UInt8):Bool :=
 decide (1<=l.length)&&decide (l.length<=1000)&&(decide (l.length=1)||decide (l.headD 0≠48))&&dgts l
def bts(s:ByteArray):List UInt8:=s.data.toList
def str(l:List UInt8):ByteArray:=⟨l.toArray⟩
theorem AK(l:List UInt8):bts (str l)=l:=by simp[bts,str]
theorem Ee(s:ByteArray):str (bts s)=s:=by simp[bts,str]
theorem AH(l:List UInt8):(str l).size=l.length:=by simp[str,ByteArray.size]
theorem Aq(s:ByteArray):(bts s).length=s.size:=by simp[bts]
theorem Dl{s t:ByteArray}(h:bts s=bts t):s=t:=by rw[<-Ee s,h,Ee]
theorem Ja(s:ByteArray)(k:Nat)(h:k<s.size):(bts s)[k]'(by rw[Aq];exact h)=s[k]:=rfl
def EB(s:ByteArray)(k:Nat)(h:k<s.size):(bts s).take (k+1)=(bts s).take k++[s[k]]:=by
 rw[List.take_succ_eq_append_getElem (by rw[Aq];exact h)];rfl
def El(s:ByteArray)(k:Nat)(h:k<s.size):(bts s).getD k 0=s[k]:=by
 rw[List.getD_eq_getElem?_getD,List.getElem?_eq_getElem (by rw[Aq];exact h)];rfl
def FL(s:ByteArray)(h:0<s.size):(bts s).headD 0=s[0]:=by
 rw[<-El s 0 h];cases bts s<;>rfl
theorem DU(l:List UInt8)(c:UInt8):dgts (l++[c])=(dgts l&&dgt c):=by simp[dgts,List.all_append]
theorem GY(s:ByteArray)(k:Nat)(h:k<s.size)(hd:dgt s[k]=false):dgts (bts s)=false:=by
 unfold dgts;rw[List.all_eq_false];refine⟨s[k],?_,by simp[hd]⟩;have:=List.getElem_mem (l:=bts s) (n:=k) (by rw[Aq];exact h);exact this
def Bb{l:List UInt8}(h:As l=true):1<=l.length/\l.length<=1000/\(l.length=1\/l.headD 0≠48)/\dgts l=true:=by
 simp only[As,Bool.and_eq_true,Bool.or_eq_true,decide_eq_true_eq]at h;exact⟨h.1.1.1,h.1.1.2,h.1.2,h.2⟩
def IG{l:List UInt8}(c:1<=l.length)(d:l.length<=1000)(g:l.length=1\/l.headD 0≠48)(h:dgts l=true):As l=true:=by
 simp only[As,Bool.and_eq_true,Bool.or_eq_true,decide_eq_true_eq];exact⟨⟨⟨c,d⟩,g⟩,h⟩
def Jm{l:List UInt8}(h:dgts l=true)(k:Nat)(c:k<l.length):48<=l[k].toNat/\l[k].toNat<=57:=by
 have:=List.all_eq_true.1 h l[k] (List.getElem_mem _)
 simpa [dgt] using this
def num(l:List UInt8):Nat:=l.foldl (λn c=>10*n+(c.toNat-48)) 0
abbrev dec(n:Nat):List UInt8:=Lib.decDigits n
theorem Dq(l:List UInt8)(c:UInt8):num (l++[c])=10*num l+(c.toNat-48):=by simp[num,List.foldl_append]
theorem BA(h:n<10):dec n=[UInt8.ofNat (48+n)]:=Lib.decDigits_one h
def En(h:¬n<10):dec n=dec (n / 10)++[UInt8.ofNat (48+n % 10)]:=by
 unfold dec;rw[Lib.decDigits,dif_neg h]
theorem u8n(h:n<256):(UInt8.ofNat n).toNat=n:=by simp[UInt8.toNat_ofNat'];omega
def u8d(h:n<10):(UInt8.ofNat (48+n)).toNat-48=n:=by rw[u8n (by omega)];omega
theorem CJ(n:Nat):num (dec n)=n:=by
 induction n using Nat.strongRecOn with
 |ind n ih =>
  by_cases h:n<10
  ·rw[BA h];simp only[num,List.foldl];rw[u8d h];omega
  rw[En h,Dq,ih (n / 10) (by omega),u8d (by omega)];omega
def CB{m:Nat}(h:dec m=dec n):m=n:=by rw[<-CJ m,h,CJ]
theorem EO(n:Nat):1<=(dec n).length:=by unfold dec;rw[Lib.decDigits_length];exact Lib.nDigits_pos n
def CW(n:Nat):dgts (dec n)=true:=by
 induction n using Nat.strongRecOn with
 |ind n ih =>
  by_cases h:n<10
  ·rw[BA h];simp only[dgts,List.all_cons,List.all_nil,dgt];rw[u8n (by omega)];simp;omega
  rw[En h,DU,ih (n / 10) (by omega)];simp only[dgt];rw[u8n (by omega)];simp;omega
def ML{l r:List UInt8}(h:1<=l.length):(l++r).headD 0=l.headD 0:=by cases l with
 |nil=>simp at h
 |cons a l=>rfl
def Sm(n:Nat)(h:1<=n):(dec n).headD 0≠48:=by
 induction n using Nat.strongRecOn with
 |ind n ih =>
  by_cases c:n<10
  ·rw[BA c];simp only[List.headD_cons];intro e;have:=congrArg UInt8.toNat e;rw[u8n (by omega)]at this;simp at this;omega
  rw[En c,ML (EO _)];exact ih (n / 10) (by omega) (by omega)
def Lj(h:(dec n).length<=1000):As (dec n)=true:=by
 refine IG (EO n) h ?_ (CW n);by_cases c:n=0
 ·left;subst c;rw[BA (by omega)];rfl
 right;exact Sm n (by omega)
def Hm{α:Type}(l:List α)(h:l≠[]):∃m c,l=m++[c]:=⟨l.dropLast,l.getLast h,(List.dropLast_concat_getLast h).symm⟩
def IE{c:UInt8}(h:c.toNat=n):UInt8.ofNat n=c:=by rw[<-h];exact UInt8.ofNat_toNat
def Mq:∀(k:Nat) (l:List UInt8),l.length=k->1<=l.length->l.headD 0≠48->dgts l=true->1<=num l/\dec (num l)=l:=by
 intro k
 induction k with
 |zero=>intro l z A;omega
 |succ k ih =>
  intro l g _ d hd;obtain⟨m,c,rfl⟩:=Hm l (by intro e;subst e;simp at g);rw[DU]at hd;simp only[Bool.and_eq_true,dgt,decide_eq_true_eq]at hd;obtain⟨p,j,o⟩:=hd;simp at g;by_cases h:m=[]
  ·subst h;have s:num ([]++[c])=c.toNat-48:=by simp[num]
   have B:c.toNat≠48:=by
    intro e;apply d;have:=UInt8.toNat_inj.1<|show c.toNat=(48:UInt8).toNat from e;simpa using this
   rw[s];refine⟨by omega,?_⟩;rw[BA (by omega),IE (c:=c) (by omega)];rfl
  have i:1<=m.length:=by cases m with
   |nil=>exact absurd rfl h
   |cons a l=>simp
  rw[ML i]at d;obtain⟨i1,u⟩:=ih m g i d p;rw[Dq];refine⟨by omega,?_⟩;rw[En (by omega),show (10*num m+(c.toNat-48)) / 10=num m by omega,u,IE (c:=c) (by omega)]
theorem BU{l:List UInt8}(h:As l=true):dec (num l)=l:=by
 obtain⟨g,o,i,j⟩:=Bb h;by_cases d:l.headD 0≠48
 ·exact(Mq _ l rfl g d j).2
 have m:l.length=1:=by rcases i with h|h;exact h;exact absurd h d
 match l,m with
 | [c],_ =>
  have k:c=48:=by simpa using d
  subst k;have:num [48]=0:=rfl;rw[this,BA (by omega)];rfl
theorem BK{k:Nat}:(dec n).length<=k↔(n<10 ^ k/\1<=k):=by
 unfold dec;rw[Lib.decDigits_length]
 constructor
 ·intro h;exact⟨Nat.lt_of_lt_of_le (Lib.lt_pow_nDigits n) (Nat.pow_le_pow_right (by omega) h),Nat.le_trans (Lib.nDigits_pos n) h⟩
 intro ⟨h,g⟩
 induction k generalizing n with
 |zero=>omega
 |succ k ih =>
  by_cases d:n<10
  ·rw[Lib.nDigits_small d];omega
  rw[Lib.nDigits_big d];by_cases c:k=0
  ·subst c;simp at h;omega
  have:=ih (n:=n / 10) (by rw[Nat.pow_succ]at h;omega) (by omega);omega
def Ka(l:List UInt8)(hd:dgts l=true):num l<10 ^ l.length:=by
 suffices h:∀(k:Nat) (l:List UInt8),l.length=k->dgts l=true->num l<10 ^ l.length from h _ l rfl hd
 intro k
 induction k with
 |zero=>intro l h _;have:l=[]:=List.length_eq_zero_iff.1 h;subst this;simp[num]
 |succ k ih =>
  intro l d hd;obtain⟨m,c,rfl⟩:=Hm l (by intro e;subst e;simp at d);rw[DU]at hd;simp only[Bool.and_eq_true,dgt,decide_eq_true_eq]at hd;simp at d;have:=ih m d hd.1;rw[Dq,List.length_append,List.length_singleton,Nat.pow_succ];omega
def UU{l m:List UInt8}(c:As l=true)(d:As m=true)(h:num l=num m):l=m:=by
 rw[<-BU c,h,BU d]
variable{k:IntKind}{w w':World}{v:Value}{B:Nat}{l xs:List Nat}{e:TypeId}{a b:Int}
def AI{a b:Bool}(h:a=b):Ending.returned (.bool a)=.returned (.bool b):=by rw[h]
theorem BR(h:a=b):Ending.returned (.int k a)=.returned (.int k b):=by rw[h]
theorem Dr{a b:ByteArray}(h:a=b):Ending.returned (.string a)=.returned (.string b):=by rw[h]
theorem Wo{c:IntKind}{a' b':Int}(h:a=a')(d:b=b'):Ending.returned (.tuple #[.int k a,.int c b])=.returned (.tuple #[.int k a',.int c b']):=by rw[h,d]
theorem below_drewN{a:World}(h:Below B a w)(n:Nat):Below B a (w.drewN n):=h.trans ⟨rfl,rfl,rfl,nlr,λ_ _=>rfl⟩
def lenV(v:Value):Nat:=match v with | .slice _ n _=>n|_=>0
theorem MU(a:Option Addr)(n c:Nat):lenV (.slice a n c)=n:=rfl
def strV(v:Value):Nat:=match v with | .string s=>s.size|_=>0
theorem Xs(s:ByteArray):strV (.string s)=s.size:=rfl
def nth(xs:List Nat)(i:Nat):Nat:=xs.getD i 0
def CZ(xs:List Nat)(i:Nat)(h:i<xs.length):nth xs i=xs[i]:=by simp[nth,List.getD_eq_getElem?_getD,h]
theorem AP(xs:List Nat)(i:Nat)(h:xs.length<=i):nth xs i=0:=by simp[nth,List.getD_eq_getElem?_getD,h]
theorem Fg(xs:List Nat)(k i:Nat)(h:i<k):nth (xs.take k) i=nth xs i:=by simp[nth,List.getD_eq_getElem?_getD,h]
theorem Iy(xs:List Nat)(k:Nat)(h:k<xs.length):xs.take (k+1)=xs.take k++[nth xs k]:=by
 rw[List.take_succ_eq_append_getElem h,CZ xs k h]
def vals(k:IntKind)(xs:List Nat):List Value:=xs.map λn:Nat=>Value.int k (n:Int)
theorem Qh(k:IntKind)(xs:List Nat):(vals k xs).length=xs.length:=by simp[vals]
theorem Ll(k:IntKind)(xs:List Nat)(n:Nat):vals k xs++[.int k (n:Int)]=vals k (xs++[n]):=by simp[vals]
theorem Yt(k:IntKind)(xs:List Nat)(n:Nat):(vals k xs).take n=vals k (xs.take n):=by simp[vals,List.map_take]
theorem Qg(k:IntKind)(xs:List Nat)(i:Nat)(h:i<xs.length):(vals k xs)[i]?=some (.int k ((nth xs i:Nat):Int)):=by
 rw[CZ xs i h];simp[vals,h]
def Sl(w:World)(k:IntKind)(v:Value)(xs:List Nat):Prop :=
 (v=.slice none 0 0/\xs=[])\/∃b off cap,v=.slice (some (Ad b off)) xs.length cap/\b<w.heap.size/\xs.length<=cap/\cap<=maxLen/\
  ∀i,i<xs.length->w.cell? (Ad b (off+i))=some (.int k ((nth xs i:Nat):Int))
def Sl.open(h:Sl w k v xs):∃a cap b off,v=.slice a xs.length cap/\(0<xs.length->a=some (Ad b off))/\xs.length<=cap/\cap<=maxLen/\
  (0<xs.length->b<w.heap.size)/\∀i,i<xs.length->w.cell? (Ad b (off+i))=some (.int k ((nth xs i:Nat):Int)):=by
 rcases h with⟨c,rfl⟩|⟨b,off,cap,c,d,g,j,l⟩
 ·exact⟨none,0,0,0,c,by simp,by simp,by simp,by simp,by simp⟩
 exact⟨_,cap,b,off,c,λ_=>rfl,g,j,λ_=>d,l⟩
def Sl.nil(w:World)(k:IntKind):Sl w k (.slice none 0 0) []:=.inl ⟨rfl,rfl⟩
def Sl.below(h:Sl w k v xs)(hb:Below B w w')(s:w.heap.size<=B):Sl w' k v xs:=by
 rcases h with h|⟨b,c,d,o,g,j,l,m⟩
 ·exact .inl h
 exact .inr ⟨b,c,d,o,Nat.lt_of_lt_of_le g hb.size,j,l,λi hi=>(hb.cell (p:=(Ad b (c+i))) (by show b<B;omega)).trans (m i hi)⟩
theorem Sl.take{a:Option Addr}{n cap m:Nat}(h:Sl w k (.slice a n cap) xs)(g:m<=xs.length):Sl w k (.slice a m cap) (xs.take m):=by
 rcases h with⟨d,rfl⟩|⟨b,j,c,d,l,s,o,p⟩
 ·simp at d g;subst g;obtain⟨rfl,rfl,rfl⟩:=d;exact .inl ⟨rfl,rfl⟩
 simp at d;obtain⟨rfl,rfl,rfl⟩:=d;refine .inr ⟨b,j,cap,by rw[List.length_take,Nat.min_eq_left g],l,by rw[List.length_take];omega,o,λi hi=>?_⟩;rw[List.length_take]at hi;rw[Fg _ _ _ (by omega)];exact p i (by omega)
def Own(w:World)(B:Nat)(e:TypeId)(k:IntKind)(v:Value)(xs:List Nat):Prop:=w.ownsRow B e 1 v xs.length (vals k xs)
def Own.nil(w:World)(B:Nat)(e:TypeId)(k:IntKind):Own w B e k (.slice none 0 0) []:=World.ownsRow_nil w B e 1
def Own.sl(h:Own w B e k v xs):Sl w k v xs:=by
 rcases h.2 with⟨c,j⟩|⟨g,d,cur,c,_,o,l,m,p,s⟩
 ·exact .inl ⟨c,List.length_eq_zero_iff.1 j⟩
 refine .inr ⟨g,0,d,c,(Array.getElem?_eq_some_iff.1 o).1,l,m,λi hi=>?_⟩;subst c;rw[Nat.zero_add,World.ownsRow.cellAt h i (by omega),Qg k xs i hi]
theorem Own.kept{j:Nat}(h:Own w B e k v xs)(hb:Below j w w')(o:w.heap.size<=j):Own w' B e k v xs:=by
 refine⟨h.1,?_⟩
 rcases h.2 with m|⟨g,i,cur,rfl,l,c,d⟩
 ·exact .inl m
 have:=(Array.getElem?_eq_some_iff.1 c).1;exact .inr ⟨g,i,cur,rfl,l,by rw[hb.block g (by omega)];exact c,d⟩
def Own.mono{i:Nat}(h:Own w B e k v xs)(m:i<=B):Own w i e k v xs:=by
 refine⟨h.1,?_⟩
 rcases h.2 with j|⟨g,d,cur,rfl,l,c⟩
 ·exact .inl j
 exact .inr ⟨g,d,cur,rfl,by omega,c⟩
theorem Own.take{w:World}{B:Nat}{e:TypeId}{k:IntKind}{a:Option Addr}{n cap m:Nat}{xs:List Nat}(h:Own w B e k (.slice a n cap) xs)(z:m<=xs.length):Own w B e k (.slice a m cap) (xs.take m):=by
 have s:(xs.take m).length=m:=by rw[List.length_take];omega
 refine⟨by rw[Qh];omega,?_⟩;rw[s]
 rcases h.2 with⟨d,j⟩|⟨g,c,cur,d,j,i,u,l,o,p⟩
 ·simp at d;obtain⟨rfl,rfl,rfl⟩:=d;have:m=0:=by omega
  subst this;exact .inl ⟨rfl,rfl⟩
 simp only[Value.slice.injEq]at d;obtain⟨rfl,rfl,rfl⟩:=d;refine .inr ⟨g,cap,cur,rfl,j,i,by omega,l,o,?_⟩;rw[<-Yt,<-p,List.take_take];congr 1;omega
def Own.appended{wr w1:World}{v':Value}{x:Nat}{o:Obj}(h:Own wr B e k v l)(hb:Below B w wr)(d:B<=wr.heap.size)
  (c:w1.ownsRow B e 1 v' (l.length+1) (vals k l++[.int k (x:Int)])) (g:(wr.alloc o).grownBy w1 v.ownBlock):Own w1 B e k v' (l++[x])/\Below B w w1:=by
 constructor
 ·unfold Own;rw[Ll]at c;rw[List.length_append];exact c
 exact(hb.alloc d o).grown g (by simp;omega) (λq i=>(World.ownsRow.lt h q i).1)
def Own.raw(h:Own w B e k v l):w.ownsRow B e 1 v l.length (vals k l):=h
def one_cell(k:IntKind)(x:Int):∀u ∈ [Value.int k x],u.oneCell'=true:=by intro u c;simp at c;subst c;rfl
def Own.shape(h:Own w B e k v xs):∃a cap,v=.slice a xs.length cap:=by
 rcases h.2 with⟨c,d⟩|⟨g,cap,cur,c,_⟩
 ·exact⟨none,0,by rw[c,d]⟩
 exact⟨_,cap,c⟩
def Sl.shape(h:Sl w k v xs):∃a cap,v=.slice a xs.length cap:=by
 rcases h with⟨c,d⟩|⟨b,g,cap,c,_⟩
 ·exact⟨none,0,by rw[c,d];rfl⟩
 exact⟨_,cap,c⟩
end
end Go.Proofs.YtpldocnhbdlgfaaGreatDoor
