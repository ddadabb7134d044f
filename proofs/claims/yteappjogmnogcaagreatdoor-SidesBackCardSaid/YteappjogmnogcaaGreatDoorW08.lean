/- Parts of a proof: Lub LubV Unr Dp WgM C6. -/
import Derived.Test.YteappjogmnogcaaGreatDoorW00
import Derived.Test.YteappjogmnogcaaGreatDoorW07
import Derived.Test.YteappjogmnogcaaGreatDoorW06
import Derived.Maps.Own
import Derived.OwnWalk
namespace Go.Proofs.YteappjogmnogcaaGreatDoor
set_option maxRecDepth 100000
set_option linter.unusedSimpArgs false
set_option linter.unusedVariables false
set_option linter.unusedSectionVars false
set_option maxHeartbeats 16000000
open Go Tryz
section
namespace CSR
section
variable {R:Type} [CSR R]
def Lub (S:Nat->R) (s:R):Prop:=(∀ n,le (S n) s)/\∀ u,(∀ n,le (S n) u)->le s u
def Mono (S:Nat->R):Prop:=∀ n,le (S n) (S (n+1))
def geo (a:R):Nat->R
 | 0=>zero
 | n+1=>one+a*geo a n
end
end CSR
class CSC (R:Type) [CSR R]:Prop where
 lub_add:∀ (S:Nat->R) (s b:R),CSR.Lub S s->∀ u,(∀ n,CSR.le (S n+b) u)->CSR.le (s+b) u
 lub_mul:∀ (S:Nat->R) (s b:R),CSR.Lub S s->∀ u,(∀ n,CSR.le (S n*b) u)->CSR.le (s*b) u
 lub_star:∀ (a u:R),(∀ n,CSR.le (CSR.geo a n) u)->CSR.le (CSR.star a) u
namespace CSR
section
variable {R:Type} [CSR R]
theorem sum_comm (f:Nat->Nat->R) (m:Nat):∀ n,sum (fun i=>sum (f i) m) n=sum (fun j=>sum (fun i=>f i j) n) m
 | 0=>by
  show zero=_;exact(sum_zero m).symm
 | n+1=>by
  show sum (fun i=>sum (f i) m) n+sum (f n) m=_;rw[sum_comm f m n,<- sum_add];rfl
theorem zero_le (a:R):le zero a:=⟨a,(z0 a).symm⟩
theorem le_mul {a b c d:R} (h:le a b) (k:le c d):le (a*c) (b*d):=le_trans (le_times a k) (by rw[mC a d,mC b d];exact le_times d h)
theorem Mono.to {S:Nat->R} (h:Mono S) {n m:Nat} (c:n<=m):le (S n) (S m):=by
 induction m with
 | zero=>rw[Nat.le_zero.1 c];exact le_refl _
 | succ m ih =>
  by_cases e:n=m+1
  ·rw[e];exact le_refl _
  exact le_trans (ih (by omega)) (h m)
theorem Mono.const (s:R):Mono (fun _=>s):=fun _=>le_refl s
theorem Mono.add {S T:Nat->R} (h:Mono S) (k:Mono T):Mono (fun n=>S n+T n):=fun n=>le_plus (h n) (k n)
theorem Mono.mul {S T:Nat->R} (h:Mono S) (k:Mono T):Mono (fun n=>S n*T n):=fun n=>le_mul (h n) (k n)
theorem Mono.sum {S:Nat->Nat->R} {m:Nat} (h:∀ i,i<m->Mono (S i)):Mono (fun n=>CSR.sum (fun i=>S i n) m):=fun n=>sum_le fun i hi=>h i hi n
theorem Lub.const (s:R):Lub (fun _=>s) s:=⟨fun _=>le_refl s,fun u h=>h 0⟩
theorem Lub.congr {S T:Nat->R} {s:R} (h:Lub S s) (c:∀ n,S n=T n):Lub T s:=by
 have:S=T:=funext c;rw[<- this];exact h
theorem Lub.le_of {S T:Nat->R} {s t:R} (h:Lub S s) (k:Lub T t) (c:∀ n,∃ m,le (S n) (T m)):le s t :=
 h.2 t fun n=>by obtain⟨m,d⟩:=c n;exact le_trans d (k.1 m)
theorem Lub.eq_of {S T:Nat->R} {s t:R} (h:Lub S s) (k:Lub T t) (c:∀ n,∃ m,le (S n) (T m)) (d:∀ n,∃ m,le (T n) (S m)):s=t:=le_anti (h.le_of k c) (k.le_of h d)
theorem Lub.eq {S:Nat->R} {s t:R} (h:Lub S s) (k:Lub S t):s=t:=h.eq_of k (fun n=>⟨n,le_refl _⟩) (fun n=>⟨n,le_refl _⟩)
theorem Lub.of {S T:Nat->R} {s:R} (h:Lub S s) (d:∀ n,∃ m,le (S n) (T m)) (i:∀ n,∃ m,le (T n) (S m)):Lub T s :=
 ⟨fun n=>by obtain⟨m,c⟩:=i n;exact le_trans c (h.1 m),fun u g=>h.2 u fun n=>by obtain⟨m,c⟩:=d n;exact le_trans c (g m)⟩
theorem Lub.shift {S:Nat->R} {s:R} (h:Lub S s) (c:Mono S) (k:Nat):Lub (fun n=>S (n+k)) s :=
 h.of (fun n=>⟨n,c.to (by omega)⟩) (fun n=>⟨n+k,le_refl _⟩)
theorem geo_mono {a b:R} (h:le a b):∀ {n m:Nat},n<=m->le (geo a n) (geo b m)
 | 0,_,_=>zero_le _
 | n+1,m+1,hm=>le_plus (le_refl _) (le_mul h (geo_mono h (by omega)))
 | n+1,0,hm=>absurd hm (by omega)
theorem geo_le_star (a:R):∀ n,le (geo a n) (star a)
 | 0=>zero_le _
 | n+1=>by rw[sE a];exact le_plus (le_refl _) (le_times a (geo_le_star a n))
def way (M:Nat->Nat->R) (p:Nat):Nat->Nat->Nat->R
 | 0,_,_=>zero
 | N+1,i,j=>M i j+sum (fun k=>M i k*way M p N k j) p
theorem way_step (M:Nat->Nat->R) (p:Nat):∀ N i j,le (way M p N i j) (way M p (N+1) i j)
 | 0,_,_=>zero_le _
 | N+1,i,j=>le_plus (le_refl _) (sum_le fun k _=>le_times _ (way_step M p N k j))
theorem way_mono (M:Nat->Nat->R) (p i j:Nat):Mono (fun N=>way M p N i j):=fun N=>way_step M p N i j
theorem way_le (M:Nat->Nat->R) (p:Nat):∀ N i j,le (way M p N i j) (elims M p i j)
 | 0,_,_=>zero_le _
 | N+1,i,j=>by rw[elims_first];exact le_plus (le_refl _) (sum_le fun k _=>le_times _ (way_le M p N k j))
theorem way_cat (M:Nat->Nat->R) (p b j:Nat):∀ a i,le (way M p a i p*way M (p+1) b p j+way M p a i j) (way M (p+1) (a+b) i j)
 | 0,i=>by show le (zero*_+zero) _;rw[zm,a0];exact zero_le _
 | a+1,i=>by
  have ih:=way_cat M p b j a;have e:way M (p+1) (a+1+b) i j=M i j+(sum (fun k=>M i k*way M (p+1) (a+b) k j) p+M i p*way M (p+1) (a+b) p j):=by
   rw[show a+1+b=a+b+1 by omega];rfl
  rw[e];show le ((M i p+sum (fun k=>M i k*way M p a k p) p)*way M (p+1) b p j+(M i j+sum (fun k=>M i k*way M p a k j) p)) _;have e2:(M i p+sum (fun k=>M i k*way M p a k p) p)*way M (p+1) b p j+(M i j+sum (fun k=>M i k*way M p a k j) p)
    = M i j+(sum (fun k=>M i k*(way M p a k p*way M (p+1) b p j+way M p a k j)) p+M i p*way M (p+1) b p j):=by
   rw[dM,sum_mul];have:sum (fun k=>M i k*(way M p a k p*way M (p+1) b p j+way M p a k j)) p=sum (fun k=>M i k*way M p a k p*way M (p+1) b p j) p+sum (fun k=>M i k*way M p a k j) p:=by
    rw[<- sum_add];exact sum_congr fun k _=>by rw[mD,mA]
   rw[this,aL,aA,aC (M i p*way M (p+1) b p j)]
  rw[e2];refine le_plus (le_refl _) (le_plus (sum_le fun k _=>le_times _ (ih k)) (le_times _ ?_));exact(way_mono M (p+1) p j).to (by omega)
theorem way_geo (M:Nat->Nat->R) (p a j:Nat):∀ l,le (geo (way M p a p p) l*way M p a p j) (way M (p+1) (l*a) p j)
 | 0=>by show le (zero*_) _;rw[zm];exact zero_le _
 | l+1=>by
  show le ((one+way M p a p p*geo (way M p a p p) l)*way M p a p j) _;rw[dM,o1,mA,aC];refine le_trans (le_plus (le_times _ (way_geo M p a j l)) (le_refl _)) ?_;have:=way_cat M p (l*a) j a p;rw[show (l+1)*a=a+l*a by rw[Nat.add_mul];omega];exact this
theorem way_star (M:Nat->Nat->R) (p a l i j:Nat):le (way M p a i p*(geo (way M p a p p) l*way M p a p j)+way M p a i j) (way M (p+1) (a+l*a) i j) :=
 le_trans (le_plus (le_times _ (way_geo M p a j l)) (le_refl _)) (way_cat M p (l*a) j a i)
variable [CSC R]
theorem Lub.add {S T:Nat->R} {s t:R} (h:Lub S s) (k:Lub T t) (g:Mono S) (i:Mono T):Lub (fun n=>S n+T n) (s+t):=by
 refine⟨fun n=>le_plus (h.1 n) (k.1 n),fun u d=>?_⟩;have c:∀ n m,le (S n+T m) u:=fun n m=>le_trans (le_plus (g.to (Nat.le_max_left n m)) (i.to (Nat.le_max_right n m))) (d (max n m));have j:∀ m,le (s+T m) u:=fun m=>CSC.lub_add S s (T m) h u fun n=>c n m;rw[aC];exact CSC.lub_add T t s k u fun m=>by rw[aC];exact j m
theorem Lub.mul {S T:Nat->R} {s t:R} (h:Lub S s) (k:Lub T t) (g:Mono S) (i:Mono T):Lub (fun n=>S n*T n) (s*t):=by
 refine⟨fun n=>le_mul (h.1 n) (k.1 n),fun u d=>?_⟩;have c:∀ n m,le (S n*T m) u:=fun n m=>le_trans (le_mul (g.to (Nat.le_max_left n m)) (i.to (Nat.le_max_right n m))) (d (max n m));have j:∀ m,le (s*T m) u:=fun m=>CSC.lub_mul S s (T m) h u fun n=>c n m;rw[mC];exact CSC.lub_mul T t s k u fun m=>by rw[mC];exact j m
theorem Lub.mulL {S:Nat->R} {s:R} (h:Lub S s) (b:R):Lub (fun n=>b*S n) (b*s) :=
 ⟨fun n=>le_times b (h.1 n),fun u c=>by rw[mC];exact CSC.lub_mul S s b h u fun n=>by rw[mC];exact c n⟩
theorem Lub.sum {S:Nat->Nat->R} {s:Nat->R}:∀ {m:Nat},(∀ i,i<m->Lub (S i) (s i))->(∀ i,i<m->Mono (S i))->Lub (fun n=>CSR.sum (fun i=>S i n) m) (CSR.sum s m)
 | 0,_,_=>Lub.const _
 | m+1,h,k=>(Lub.sum (fun i hi=>h i (by omega)) (fun i hi=>k i (by omega))).add (h m (by omega)) (Mono.sum fun i hi=>k i (by omega)) (k m (by omega))
theorem Lub.geo {S:Nat->R} {s:R} (h:Lub S s) (hS:Mono S):∀ l,Lub (fun n=>CSR.geo (S n) l) (CSR.geo s l)
 | 0=>Lub.const _
 | l+1=>(Lub.const one).add (h.mul (Lub.geo h hS l) hS (fun n=>geo_mono (hS n) (Nat.le_refl l))) (Mono.const one) (hS.mul fun n=>geo_mono (hS n) (Nat.le_refl l))
theorem Lub.star {S:Nat->R} {s:R} (h:Lub S s) (c:Mono S):Lub (fun n=>CSR.geo (S n) n) (CSR.star s):=by
 refine⟨fun n=>le_trans (geo_mono (h.1 n) (Nat.le_refl n)) (geo_le_star s n),fun u d=>CSC.lub_star s u fun l=>?_⟩;exact(h.geo c l).2 u fun n=>le_trans (geo_mono (c.to (Nat.le_max_left n l)) (Nat.le_max_right n l)) (d (max n l))
theorem elims_lub (M:Nat->Nat->R):∀ p i j,Lub (fun N=>way M p N i j) (elims M p i j)
 | 0,i,j=>⟨fun N=>way_le M 0 N i j,fun u hu=>by
   have h1:le (way M 0 1 i j) u:=hu 1;rw[show way M 0 1 i j=M i j from a0 _] at h1;exact h1⟩
 | p+1,i,j=>by
  refine⟨fun N=>way_le M (p+1) N i j,fun u hu=>?_⟩;have hm:=way_mono M p;have hl:Lub (fun N=>way M p N i p*(CSR.geo (way M p N p p) N*way M p N p j)+way M p N i j) (elims M p i p*(CSR.star (elims M p p p)*elims M p p j)+elims M p i j) :=
   ((
    elims_lub M p i p).mul (((elims_lub M p p p).star (hm p p)).mul (elims_lub M p p j) (fun n=>geo_mono (hm p p n) (by omega)) (hm p j)) (hm i p) (Mono.mul (fun n=>geo_mono (hm p p n) (by omega)) (hm p j))).add (elims_lub M p i j)
    (Mono.mul (hm i p) (Mono.mul (fun n=>geo_mono (hm p p n) (by omega)) (hm p j))) (hm i j)
  have:=hl.2 u fun N=>le_trans (way_star M p N N i j) (hu _);show le (elims M p i j+elims M p i p*CSR.star (elims M p p p)*elims M p p j) u;rw[aC,mA];exact this
def rnd (M:Nat->Nat->R) (n:Nat) (r:Nat->Nat->R):Nat->Nat->R
 | 0,_=>zero
 | N+1,i=>r N i+sum (fun k=>M i k*rnd M n r N k) n
theorem rnd_mono (M:Nat->Nat->R) (n:Nat) {r:Nat->Nat->R} (hr:∀ i,i<n->Mono (fun N=>r N i)):∀ N i,i<n->le (rnd M n r N i) (rnd M n r (N+1) i)
 | 0,_,_=>zero_le _
 | N+1,i,hi=>le_plus (hr i hi N) (sum_le fun k hk=>le_times _ (rnd_mono M n hr N k hk))
def sol (M:Nat->Nat->R) (n:Nat) (r:Nat->R) (i:Nat):R:=sum (fun j=>starM M n i j*r j) n
theorem sol_eq (M:Nat->Nat->R) (n:Nat) (r:Nat->R) {i:Nat} (hi:i<n):sol M n r i=r i+sum (fun k=>M i k*sol M n r k) n:=by
 have h:∀ j,j<n->starM M n i j*r j=eye i j*r j+sum (fun k=>M i k*(starM M n k j*r j)) n:=fun j c=>by
  rw[starM_left M c,dM,sum_mul];congr 1;exact sum_congr fun k _=>mA ..
 show sum (fun j=>starM M n i j*r j) n=_;rw[sum_congr h,sum_add]
 congr 1
 ·rw[sum_single _ hi (fun j _ c=>by unfold eye;rw[if_neg (fun e=>c e.symm),zm])];unfold eye;rw[if_pos rfl,o1]
 rw[sum_comm];exact sum_congr fun k _=>by unfold sol;rw[mul_sum]
theorem rnd_way (M:Nat->Nat->R) (n:Nat) {r:Nat->Nat->R} (hr:∀ i,i<n->Mono (fun N=>r N i)) (b:Nat):∀ a i,i<n->le (sum (fun j=>(way M n a i j+eye i j)*r b j) n) (rnd M n r (a+b+1) i)
 | 0,i,hi=>by
  rw[sum_single _ hi (fun j _ hj=>by show (zero+eye i j)*_=_;unfold eye;rw[if_neg (fun e=>hj e.symm),a0,zm])];show le ((zero+eye i i)*_) _;unfold eye;rw[if_pos rfl,z0,o1,show 0+b+1=b+1 by omega];exact le_add ..
 | a+1,i,hi=>by
  have ih:=rnd_way M n hr b a;have h:∀ j,j<n->(way M n (a+1) i j+eye i j)*r b j=eye i j*r b j+sum (fun k=>M i k*((way M n a k j+eye k j)*r b j)) n:=fun j hj=>by
   show (M i j+sum (fun k=>M i k*way M n a k j) n+eye i j)*r b j=_;rw[dM,aC];congr 1;have e1:M i j=sum (fun k=>M i k*eye k j) n:=by
    rw[sum_single _ hj (fun k _ hk=>by unfold eye;rw[if_neg hk,m0])];unfold eye;rw[if_pos rfl,m1]
   rw[aC (M i j)]
   conv=>lhs;arg 1;arg 2;rw[e1]
   rw[<- sum_add,sum_mul];exact sum_congr fun k _=>by rw[<- mD,mA]
  rw[sum_congr h,sum_add];rw[sum_single (fun j=>eye i j*r b j) hi (fun j _ hj=>by unfold eye;rw[if_neg (fun e=>hj e.symm),zm])];rw[show eye i i*r b i=r b i by unfold eye;rw[if_pos rfl,o1]];rw[sum_comm,show a+1+b+1=(a+b+1)+1 by omega];refine le_plus ((hr i hi).to (by omega)) (sum_le fun k hk=>?_);rw[<- mul_sum];exact le_times _ (ih k hk)
theorem rnd_lub (M:Nat->Nat->R) (n:Nat) {r:Nat->Nat->R} {s:Nat->R} (d:∀ i,i<n->Mono (fun N=>r N i)) (g:∀ i,i<n->Lub (fun N=>r N i) (s i)) {i:Nat} (hi:i<n):Lub (fun N=>rnd M n r N i) (sol M n s i):=by
 constructor
 ·intro N
  induction N generalizing i with
  | zero=>exact zero_le _
  | succ N ih=>rw[sol_eq M n s hi];exact le_plus ((g i hi).1 N) (sum_le fun k m=>le_times _ (ih m))
 intro u h;have l:Lub (fun N=>sum (fun j=>(way M n N i j+eye i j)*r N j) n) (sum (fun j=>(elims M n i j+eye i j)*s j) n) :=
  Lub.sum (S:=fun j N=>(way M n N i j+eye i j)*r N j) (fun j c=>((elims_lub M n i j).add (Lub.const _) (way_mono M n i j) (Mono.const _)).mul (g j c) ((way_mono M n i j).add (Mono.const _)) (d j c))
   (fun j c=>((way_mono M n i j).add (Mono.const _)).mul (d j c))
 exact l.2 u fun N=>le_trans (rnd_way M n d N N i hi) (h _)
end
end CSR
end
section
theorem arch {d:Rat} (c:0<d) (u:Rat):∃ n:Nat,u<(n:Rat)*d:=by
 have g:u / d<((((u / d).floor+1).toNat:Nat):Rat):=by
  have h:=Rat.lt_floor_add_one (u / d);have i:(((u / d).floor+1:Int):Rat)<=((((u / d).floor+1).toNat:Nat):Rat):=by
   rw[<- Rat.intCast_natCast];exact Rat.intCast_le_intCast.2 (by omega)
  grind
 exact⟨_,(Rat.div_lt_iff c).1 g⟩
theorem climb {P:Nat->Rat} {d:Rat} (c:0<d) (h:∀ n,P n+d<=P (n+1)) (u:Rat):∃ n,u<P n:=by
 have g:∀ n:Nat,P 0+(n:Rat)*d<=P n:=by
  intro n
  induction n with
  | zero=>rw[show ((0:Nat):Rat)=0 from rfl];grind
  | succ n ih =>
   have:=h n;rw[Rat.natCast_add];have e:((1:Nat):Rat)=1:=rfl;rw[e];grind
 obtain⟨n,i⟩:=arch c (u-P 0);exact⟨n,by have:=g n;grind⟩
theorem y7q (a b:V):leV (minV a b) a:=by
 rcases z1z a b with h|h
 ·rw[z3t h];exact z8f _
 rw[z3y h];exact h
theorem x4d (a b:V):leV (minV a b) b:=by rw[y9u];exact y7q b a
theorem v7x {a b x:V} (c:leV x a) (d:leV x b):leV x (minV a b):=by
 rcases z1z a b with h|h
 ·rw[z3t h];exact c
 rw[z3y h];exact d
theorem y6y (a b:V):leV a (maxV a b):=by
 rcases z1z a b with h|h
 ·rw[z3g h];exact h
 rw[z3i h];exact z8f _
theorem x5e (a b:V):leV b (maxV a b):=by rw[x0f];exact y6y b a
theorem v4h {a b x:V} (c:leV a x) (d:leV b x):leV (maxV a b) x:=by
 rcases z1z a b with h|h
 ·rw[z3g h];exact d
 rw[z3i h];exact c
theorem z9p (v:V):leV v .inf:=by cases v<;>trivial
theorem x2n (v:V):leV .low v:=by cases v<;>trivial
theorem y7y {v:V} (h:leV .inf v):v=.inf:=by cases v<;>first|rfl|exact h.elim
theorem v6w {v:V} (h:leV v .low):v=.low:=by cases v<;>first|rfl|exact h.elim
theorem u0k {k:Int} {v:V} (d:k=2\/k=3) (h:okV k v):leV (.fin 0) v:=by
 rcases z2g h (by omega) with rfl|⟨q,rfl,c⟩
 ·exact trivial
 exact c
namespace RK
theorem le_iff {k:KK} {a b:RK k}:CSR.le a b↔if k.1=1 then leV b.1 a.1 else leV a.1 b.1 :=
 ⟨fun ⟨c,d⟩=>by
  have g:=y6h a.2 c.2;have i:b.1=z1m k.1 a.1 c.1:=congrArg Subtype.val d;rw[<- i] at g;exact g,fun h=>by
  obtain⟨c,d,e⟩:=v8d a.2 b.2 h;exact⟨⟨c,d⟩,ext e⟩⟩
theorem le1 {k:KK} (c:k.1=1) {a b:RK k}:CSR.le a b↔leV b.1 a.1:=by rw[le_iff,if_pos c]
theorem le23 {k:KK} (c:k.1=2\/k.1=3) {a b:RK k}:CSR.le a b↔leV a.1 b.1:=by rw[le_iff,if_neg (by omega)]
end RK
theorem okV1 (v:V):okV 1 v:=by
 cases v with
 | inf=>exact⟨by decide,by decide⟩
 | low=>rfl
 | fin q=>exact .inl rfl
theorem v4c {T:Nat->V} {sv m k:V} (p:∀ v,(∀ n,leV v (T n))->leV v sv) (l:∀ n,leV k (z0i 1 (T n) m)):leV k (z0i 1 sv m):=by
 have i:(∀ n,T n=.inf)->sv=.inf:=fun h=>y7y (p .inf fun n=>by rw[h n];exact trivial);have g:∀ v,z0i 1 .inf v=.inf:=fun v=>by rw[times1]
 cases m with
 | inf=>rw[y4m,g];exact z9p _
 | low =>
  by_cases hi:∀ n,T n=.inf
  ·rw[i hi,g];exact z9p _
  have ⟨n,hn⟩:∃ n,T n≠.inf:=Classical.not_forall.1 hi;have d:=l n;have o:z0i 1 (T n) .low=.low:=by rw[times1];cases j:T n<;>first|rfl|exact absurd j hn
  rw[o] at d;rw[v6w d];exact x2n _
 | fin y =>
  cases k with
  | low=>exact x2n _
  | inf =>
   rw[i (fun n=>?_),g];exact trivial;have d:=l n;rw[times1] at d;cases j:T n with
   | inf=>rfl
   | low=>rw[j] at d;exact d.elim
   | fin t=>rw[j] at d;exact d.elim
  | fin c =>
   have d:=p (.fin (c-y)) fun n=>by
    have d:=l n;rw[times1] at d;cases j:T n with
    | inf=>exact trivial
    | low=>rw[j] at d;exact d.elim
    | fin t =>
     rw[j] at d;have o:c<=t+y:=d;show c-y<=t
     grind
   cases sv with
   | inf=>rw[g];exact trivial
   | low=>exact d.elim
   | fin s =>
    have o:c-y<=s:=d;rw[times1];show c<=s+y
    grind
theorem x7m {k:Int} (o:k=2\/k=3) {T:Nat->V} {sv z u:V} (D:∀ n,okV k (T n)) (m:okV k sv) (hb:okV k z) (i:okV k u) (F:∀ v,okV k v->(∀ n,leV (T n) v)->leV sv v) (E:∀ n,leV (mulV (T n) z) u):leV (mulV sv z) u:=by
 have n1:k≠1:=by omega
 rcases z2g hb n1 with rfl|⟨y,rfl,A⟩
 ·by_cases C:∀ n,T n=.fin 0
  ·have d:=F (.fin 0) (okV23' o Rat.le_refl) (fun n=>by rw[C n];exact Rat.le_refl);have l:=z4r d (u0k o m);rw[l,z2c];exact u0k o i
  have ⟨n,hn⟩:∃ n,T n≠.fin 0:=Classical.not_forall.1 C;have d:=E n;have l:mulV (T n) .inf=.inf:=by
   rcases z2g (D n) n1 with h|⟨q,h,_⟩
   ·rw[h];exact z3r
   rw[h];exact z2a (fun e=>hn (by rw[h,e]))
  rw[l] at d;rw[y7y d];exact z9p _
 by_cases g:y=0
 ·subst g;rw[z1y];exact u0k o i
 have p:0<y:=Rat.lt_of_le_of_ne A (fun e=>g e.symm)
 rcases z2g i n1 with rfl|⟨c,rfl,G⟩
 ·exact z9p _
 have j:(c / y)*y=c:=Rat.div_mul_cancel g;have d:=F (.fin (c / y)) (okV23' o (by
  refine Rat.le_of_mul_le_mul_right (c:=y) ?_ p;rw[j,Rat.zero_mul];exact G)) fun n=>by
  have d:=E n
  rcases z2g (D n) n1 with h|⟨t,h,_⟩
  ·rw[h,z1v g] at d;exact d.elim
  rw[h,z1f] at d;rw[h];have l:t*y<=c:=d;show t<=c / y;exact Rat.le_of_mul_le_mul_right (by rw[j];exact l) p
 rcases z2g m n1 with rfl|⟨s,rfl,_⟩
 ·exact d.elim
 rw[z1f];have l:s<=c / y:=d;show s*y<=c;have B:=Rat.mul_le_mul_of_nonneg_right l A;rw[j] at B;exact B
theorem v0u {a u:V} {G:Nat->V} (o:G 1=minV (.fin 0) (z0i 1 a (G 0))) (z:∀ n,G (n+1)=minV (.fin 0) (z0i 1 a (G n))) (h:∀ n,leV u (G n)):leV u (z1x 1 a):=by
 have i:leV (G 1) (.fin 0):=by rw[o];exact y7q _ _
 have gs:∀ n,leV (G (n+1)) (z0i 1 a (G n)):=fun n=>by rw[z];exact x4d _ _
 have s:z1x 1 a=if 0<=cmpV a (.fin 0) then .fin 0 else .low:=rfl
 rw[s]
 split
 ·exact z1b (h 1) i
 rename_i m;have g:leV a (.fin 0):=(z4y _ _).1 (by omega);cases a with
 | inf=>exact g.elim
 | low =>
  have l:leV (G 2) (z0i 1 .low (.fin 0)):=z1b (gs 1) (z9n _ i);rw[times1] at l;exact z1b (h 2) l
 | fin r =>
  have p:r<=0:=g;have j:r≠0:=by intro e;subst e;exact m (by decide +kernel)
  have C:r<0:=Rat.lt_of_le_of_ne p j;have hb:∀ n:Nat,leV (G (n+1)) (.fin ((n:Rat)*r)):=by
   intro n
   induction n with
   | zero=>rw[show ((0:Nat):Rat)*r=0 by rw[show ((0:Nat):Rat)=0 from rfl];grind];exact i
   | succ n ih =>
    have k:=z1b (gs (n+1)) (z9n (.fin r) ih);rw[times1] at k;have e:((n+1:Nat):Rat)*r=r+(n:Rat)*r:=by
     rw[Rat.natCast_add,show ((1:Nat):Rat)=1 from rfl];grind
    rw[e];exact k
  cases u with
  | low=>exact x2n _
  | inf=>have:=z1b (h 1) (hb 0);exact this.elim
  | fin c =>
   exfalso
   obtain⟨n,A⟩:=arch (d:=-r) (by grind) (-c);have B:c<=(n:Rat)*r:=z1b (h (n+1)) (hb n)
   grind
theorem v2c {a u:V} {G:Nat->V} (E:okV 3 a) (l:okV 3 u) (g:∀ n,okV 3 (G n)) (s:∀ n,G (n+1)=maxV (.fin 1) (mulV a (G n))) (m:∀ n,leV (G n) u):leV (z1x 3 a) u:=by
 have i:(3:Int)≠1:=by decide
 have j:∀ n,leV (.fin 1) (G (n+1)):=fun n=>by rw[s];exact y6y _ _
 have gs:∀ n,leV (mulV a (G n)) (G (n+1)):=fun n=>by rw[s];exact x5e _ _
 have F:z1x 3 a=if cmpV a (.fin 1)<=0 then .fin 1 else .inf:=rfl
 rw[F]
 split
 ·exact z1b (j 0) (m 1)
 rename_i A;have o1:(V.fin 1:V)=.inf\/∃ q,(V.fin 1:V)=.fin q/\0<=q:=.inr ⟨1,rfl,by decide +kernel⟩
 rcases z2g E i with rfl|⟨r,rfl,C⟩
 ·have z:=y4t (u:=.inf) (.inl rfl) o1 (z2g (g 1) i) (j 0);rw[z1v (by decide)] at z;exact z1b z (z1b (gs 1) (m 2))
 have B:1<r:=by
  have:¬ leV (.fin r) (.fin 1):=fun h=>A ((z4y _ _).2 h);exact Rat.not_le.1 this
 have hb:∀ n:Nat,leV (.fin (1+(n:Rat)*(r-1))) (G (n+1)):=by
  intro n
  induction n with
  | zero=>rw[show (1:Rat)+((0:Nat):Rat)*(r-1)=1 by rw[show ((0:Nat):Rat)=0 from rfl];grind];exact j 0
  | succ n ih =>
   have k:(0:Rat)<=(n:Rat):=Rat.natCast_nonneg;have o:(0:Rat)<=(n:Rat)*(r-1):=Rat.mul_nonneg k (by grind);have p:=y4t (u:=.fin r) (v:=.fin (1+(n:Rat)*(r-1))) (.inr ⟨r,rfl,C⟩) (.inr ⟨_,rfl,by grind⟩) (z2g (g (n+1)) i) ih;rw[z1f] at p;refine z1b ?_ (z1b p (gs (n+1)));show 1+((n+1:Nat):Rat)*(r-1)<=r*(1+(n:Rat)*(r-1));rw[Rat.natCast_add,show ((1:Nat):Rat)=1 from rfl];have H:0<=(r-1)*((n:Rat)*(r-1)):=Rat.mul_nonneg (by grind) o
   grind
 rcases z2g l i with rfl|⟨c,rfl,_⟩
 ·exact trivial
 exfalso
 obtain⟨n,D⟩:=arch (d:=r-1) (by grind) c;have I:1+(n:Rat)*(r-1)<=c:=z1b (hb n) (m (n+1))
 grind
theorem x8x {a u:V} {G:Nat->V} (L:okV 2 a) (s:okV 2 u) (E:G 0=.fin 0) (z:∀ n,G (n+1)=addV (.fin 1) (mulV a (G n))) (D:∀ n,leV (G n) u):leV (z1x 2 a) u:=by
 have n2:(2:Int)≠1:=by decide
 rcases z2g L n2 with rfl|⟨r,rfl,J⟩
 ·have g:G 1=.fin (1+0):=by rw[z,E,z1y];rfl
  have O:G 2=.inf:=by rw[z,g,z1v (by decide +kernel)];rfl
  have C:=D 2;rw[O] at C;rw[y7y C];exact z9p _
 have o:∃ P:Nat->Rat,P 0=0/\(∀ n,P (n+1)=1+r*P n)/\∀ n,G n=.fin (P n):=by
  refine⟨fun n=>Nat.rec 0 (fun _ p=>1+r*p) n,rfl,fun n=>rfl,fun n=>?_⟩
  induction n with
  | zero=>exact E
  | succ n ih=>rw[z,ih,z1f];rfl
 obtain⟨P,N,A,o⟩:=o;have K:∀ n,0<=P n:=fun n=>by
  induction n with
  | zero=>rw[N];exact Rat.le_refl
  | succ n ih=>rw[A];have:=Rat.mul_nonneg J ih;grind
 have e:z1x 2 (.fin r)=if 0<=cmpQ r 1 then .inf else .fin (1 / (1-r)):=rfl
 rw[e]
 rcases z2g s n2 with rfl|⟨c,rfl,F⟩
 ·exact z9p _
 have i:∀ n,P n<=c:=fun n=>by have:=D n;rw[o] at this;exact this
 split
 ·rename_i j
  exfalso
  have m:1<=r:=by
   rcases z1k r 1 with ⟨g,h⟩|⟨g,h⟩|⟨g,h⟩
   ·rw[h] at j;exact absurd j (by decide)
   ·rw[g];exact Rat.le_refl
   exact Rat.le_of_lt g
  obtain⟨n,H⟩:=climb (P:=P) (d:=1) (by decide +kernel) (fun n=>by
   rw[A];have g:=Rat.mul_le_mul_of_nonneg_right m (K n)
   grind) c
  have:=i n
  grind
 rename_i j;have l:r<1:=by
  rcases z1k r 1 with ⟨g,h⟩|⟨g,h⟩|⟨g,h⟩
  ·exact g
  ·rw[h] at j;exact absurd (by decide) j
  rw[h] at j;exact absurd (by decide) j
 have B:0<1-r:=(Rat.lt_iff_sub_pos r 1).1 l;have I:1-r≠0:=Rat.ne_of_gt B;show 1 / (1-r)<=c;refine Rat.not_lt.1 fun k=>?_;have Q:c*(1-r)<1:=(Rat.lt_div_iff B).1 k;obtain⟨n,H⟩:=climb (P:=P) (d:=1-c*(1-r)) (by grind) (fun n=>by
  rw[A];have g:=Rat.mul_le_mul_of_nonneg_right (i n) (Rat.le_of_lt B)
  grind) c
 have:=i n
 grind
theorem x7x {k:KK} {j:Int} (a:RK k) (h:k.1=j):okV j a.1:=h ▸ a.2
instance csc {k:KK}:CSC (RK k) where
 lub_add S s b h u hu:=by
  rcases k.2 with hk|hk|hk
  ·rw[RK.le1 hk];have e:∀ x y:RK k,(x+y).1=minV x.1 y.1:=fun x y=>(congrArg (fun z=>z1m z x.1 y.1) hk).trans (z7i _ _);rw[e];refine v7x ((RK.le1 hk).1 (h.2 u fun n=>(RK.le1 hk).2 ?_)) ?_
   ·have:=(RK.le1 hk).1 (hu n);rw[e] at this;exact z1b this (y7q _ _)
   ·have:=(RK.le1 hk).1 (hu 0);rw[e] at this;exact z1b this (x4d _ _)
  ·have hk':k.1=2\/k.1=3:=.inl hk;rw[RK.le23 hk'];have e:∀ x y:RK k,(x+y).1=addV x.1 y.1:=fun x y=>(congrArg (fun z=>z1m z x.1 y.1) hk).trans (z5y _ _);rw[e];have hu':=fun n=>(RK.le23 hk').1 (hu n);have o:∀ x:RK k,x.1=.inf\/∃ q,x.1=.fin q/\0<=q:=fun x=>z2g x.2 (by omega)
   rcases o u with h1|⟨c,h1,hc⟩
   ·rw[h1];exact z9p _
   have hb:∃ y,b.1=.fin y/\y<=c:=by
    have h2:=hu' 0;rw[e,h1] at h2
    rcases o b with h3|⟨y,h3,hy⟩
    ·rw[h3] at h2;cases hS:(S 0).1<;>rw[hS] at h2<;>exact h2.elim
    ·rw[h3] at h2
     rcases o (S 0) with h4|⟨t,h4,ht⟩
     ·rw[h4] at h2;exact h2.elim
     ·rw[h4] at h2;have h5:t+y<=c:=h2;exact⟨y,h3,by grind⟩
   obtain⟨y,hy,hyc⟩:=hb;have hs:=(RK.le23 hk').1 (h.2 ⟨.fin (c-y),okV23' hk' (by grind)⟩ fun n=>(RK.le23 hk').2 (by
    have h2:=hu' n;rw[e,h1,hy] at h2
    rcases o (S n) with h4|⟨t,h4,ht⟩
    ·rw[h4] at h2;exact h2.elim
    ·rw[h4] at h2 ⊢;have h5:t+y<=c:=h2;show t<=c-y
     grind))
   rw[h1,hy]
   rcases o s with h4|⟨t,h4,ht⟩
   ·rw[h4] at hs;exact hs.elim
   ·rw[h4] at hs ⊢;have h5:t<=c-y:=hs;show t+y<=c
    grind
  ·have hk':k.1=2\/k.1=3:=.inr hk;rw[RK.le23 hk'];have e:∀ x y:RK k,(x+y).1=maxV x.1 y.1:=fun x y=>(congrArg (fun z=>z1m z x.1 y.1) hk).trans (z7g _ _);rw[e];refine v4h ((RK.le23 hk').1 (h.2 u fun n=>(RK.le23 hk').2 ?_)) ?_
   ·have:=(RK.le23 hk').1 (hu n);rw[e] at this;exact z1b (y6y _ _) this
   ·have:=(RK.le23 hk').1 (hu 0);rw[e] at this;exact z1b (x5e _ _) this
 lub_mul S s b h u hu:=by
  by_cases hk:k.1=1
  ·rw[RK.le1 hk];have e:∀ x y:RK k,(x*y).1=z0i 1 x.1 y.1:=fun x y=>congrArg (fun z=>z0i z x.1 y.1) hk;rw[e];refine v4c (T:=fun n=>(S n).1) (fun v hv=>?_) fun n=>?_
   ·have hv':okV k.1 v:=by rw[hk];exact okV1 v
    exact(RK.le1 hk).1 (h.2 ⟨v,hv'⟩ fun n=>(RK.le1 hk).2 (hv n))
   ·have:=(RK.le1 hk).1 (hu n);rw[e] at this;exact this
  ·have hk':k.1=2\/k.1=3:=by have:=k.2;omega
   rw[RK.le23 hk'];have e:∀ x y:RK k,(x*y).1=mulV x.1 y.1:=fun x y=>times23 hk (z0q x.2 hk) (z0q y.2 hk);rw[e];refine x7m hk' (T:=fun n=>(S n).1) (fun n=>(S n).2) s.2 b.2 u.2 (fun v hv h2=>?_) fun n=>?_
   ·exact(RK.le23 hk').1 (h.2 ⟨v,hv⟩ fun n=>(RK.le23 hk').2 (h2 n))
   ·have:=(RK.le23 hk').1 (hu n);rw[e] at this;exact this
 lub_star a u hu:=by
  rcases k.2 with hk|hk|hk
  ·rw[RK.le1 hk];have hst:(CSR.star a).1=z1x 1 a.1:=congrArg (fun z=>z1x z a.1) hk;have hg:∀ n,(CSR.geo a (n+1)).1=minV (.fin 0) (z0i 1 a.1 (CSR.geo a n).1):=fun n=>by
    have h1:(CSR.geo a (n+1)).1=z1m k.1 (oneV k.1) (z0i k.1 a.1 (CSR.geo a n).1):=rfl;exact h1.trans ((congrArg (fun z=>z1m z (oneV z) (z0i z a.1 (CSR.geo a n).1)) hk).trans (z7i _ _))
   rw[hst];exact v0u (G:=fun n=>(CSR.geo a n).1) (hg 0) hg fun n=>(RK.le1 hk).1 (hu n)
  ·have hk':k.1=2\/k.1=3:=.inl hk;rw[RK.le23 hk'];have hst:(CSR.star a).1=z1x 2 a.1:=congrArg (fun z=>z1x z a.1) hk;have hg:∀ n,(CSR.geo a (n+1)).1=addV (.fin 1) (mulV a.1 (CSR.geo a n).1):=fun n=>by
    have h1:(CSR.geo a (n+1)).1=z1m k.1 (oneV k.1) (z0i k.1 a.1 (CSR.geo a n).1):=rfl;rw[h1,times23 (by omega) (z0q a.2 (by omega)) (z0q (CSR.geo a n).2 (by omega))];exact(congrArg (fun z=>z1m z (oneV z) (mulV a.1 (CSR.geo a n).1)) hk).trans (z5y _ _)
   have h0:(CSR.geo a 0).1=.fin 0:=by
    show zeroV k.1=_;unfold zeroV;rw[if_neg (by omega)]
   rw[hst];have ha:okV 2 a.1:=x7x a hk;have hu2:okV 2 u.1:=x7x u hk;exact x8x (G:=fun n=>(CSR.geo a n).1) ha hu2 h0 hg fun n=>(RK.le23 hk').1 (hu n)
  ·have hk':k.1=2\/k.1=3:=.inr hk;rw[RK.le23 hk'];have hst:(CSR.star a).1=z1x 3 a.1:=congrArg (fun z=>z1x z a.1) hk;have hg:∀ n,(CSR.geo a (n+1)).1=maxV (.fin 1) (mulV a.1 (CSR.geo a n).1):=fun n=>by
    have h1:(CSR.geo a (n+1)).1=z1m k.1 (oneV k.1) (z0i k.1 a.1 (CSR.geo a n).1):=rfl;rw[h1,times23 (by omega) (z0q a.2 (by omega)) (z0q (CSR.geo a n).2 (by omega))];exact(congrArg (fun z=>z1m z (oneV z) (mulV a.1 (CSR.geo a n).1)) hk).trans (z7g _ _)
   rw[hst];have ha:okV 3 a.1:=x7x a hk;have hu2:okV 3 u.1:=x7x u hk;exact v2c (G:=fun n=>(CSR.geo a n).1) ha hu2 (fun n=>x7x (CSR.geo a n) hk) hg fun n=>(RK.le23 hk').1 (hu n)
end
section
structure RM (R:Type) where
 n:Nat
 start:Nat
 lead:R
 fin:Nat->R
 na:Nat->Nat
 ain:Nat->Nat->Int
 aout:Nat->Nat->Int
 aw:Nat->Nat->R
 ato:Nat->Nat->Nat
def red (s:Int) (x:List Int):Option (List Int):=if s=0 then some x else match x with
 | []=>none
 | a::t=>if a=s then some t else none
theorem z2b (x:List Int):red 0 x=some x:=if_pos rfl
theorem x2i {s:Int} (h:s≠0):red s []=none:=by unfold red;rw[if_neg h]
theorem x4x {s:Int} (h:s≠0) (t:List Int):red s (s::t)=some t:=by unfold red;rw[if_neg h];simp
theorem v0b {s a:Int} (h:s≠0) (c:a≠s) (t:List Int):red s (a::t)=none:=by unfold red;rw[if_neg h];simp[c]
theorem y8k {s:Int} {x t:List Int} (h:red s x=some t):(s=0/\t=x)\/(s≠0/\x=s::t):=by
 unfold red at h;by_cases e:s=0
 ·rw[if_pos e] at h;left;exact⟨e,by cases h;rfl⟩
 rw[if_neg e] at h
 right
 cases x with
 | nil=>cases h
 | cons a x' =>
  by_cases c:a=s
  ·simp[c] at h;exact⟨e,by rw[c,h]⟩
  simp[c] at h
theorem y7h {s:Int} {x t:List Int} (h:red s x=some t):t.length<=x.length/\(s≠0->t.length<x.length):=by
 rcases y8k h with ⟨c,rfl⟩|⟨c,rfl⟩
 ·exact⟨nlr,fun h=>absurd c h⟩
 simp
open CSR
section
variable {R:Type} [CSR R]
def arcT (A:RM R) (f:Nat->List Int->List Int->R) (q k:Nat) (x y:List Int):R :=
 match red (A.ain q k) x,red (A.aout q k) y with
 | some x',some y'=>A.aw q k*f (A.ato q k) x' y'
 | _,_=>zero
def endT (A:RM R) (q:Nat) (x y:List Int):R:=if x=[]/\y=[] then A.fin q else zero
def unr (A:RM R):Nat->Nat->List Int->List Int->R
 | 0,_,_,_=>zero
 | N+1,q,x,y=>endT A q x y+sum (fun k=>arcT A (unr A N) q k x y) (A.na q)
theorem x7q {A:RM R} {f g:Nat->List Int->List Int->R} {q k:Nat} (h:∀ x y,le (f (A.ato q k) x y) (g (A.ato q k) x y)) (x y:List Int):le (arcT A f q k x y) (arcT A g q k x y):=by
 unfold arcT
 split
 ·exact le_times _ (h _ _)
 exact le_refl _
theorem z7b (A:RM R):∀ N q x y,le (unr A N q x y) (unr A (N+1) q x y)
 | 0,_,_,_=>zero_le _
 | N+1,q,x,y=>le_plus (le_refl _) (sum_le fun k _=>x7q (fun x y=>z7b A N _ x y) x y)
theorem v6k (A:RM R) (q:Nat) (x y:List Int):Mono (fun N=>unr A N q x y):=fun N=>z7b A N q x y
def Inn (A:RM R):Prop:=∀ q k,q<A.n->k<A.na q->A.ato q k<A.n
def sil (A:RM R) (q p:Nat):R:=sum (fun k=>if A.ain q k=0/\A.aout q k=0/\A.ato q k=p then A.aw q k else zero) (A.na q)
def nsT (A:RM R) (f:Nat->List Int->List Int->R) (q k:Nat) (x y:List Int):R:=if A.ain q k=0/\A.aout q k=0 then zero else arcT A f q k x y
theorem y7f (f:Nat->R) (t:Nat->Nat) (g:Nat->R) (c:Nat->Bool) (n:Nat):∀ m,(∀ k,k<m->t k<n) ->
  sum (fun k=>if c k=true then f k*g (t k) else zero) m=sum (fun p=>sum (fun k=>if c k=true/\t k=p then f k else zero) m*g p) n
 | 0,_=>by
  show zero=sum (fun p=>zero*g p) n;rw[sum_congr (g:=fun _=>zero) (fun p _=>zm _),sum_zero]
 | m+1,h=>by
  show sum _ m+_=sum (fun p=>(sum _ m+_)*g p) n;rw[y7f f t g c n m (fun k hk=>h k (by omega))];rw[sum_congr (f:=fun p=>(sum (fun k=>if c k=true/\t k=p then f k else zero) m+if c m=true/\t m=p then f m else zero)*g p) (g:=fun p=>sum (fun k=>if c k=true/\t k=p then f k else zero) m*g p+(if c m=true/\t m=p then f m else zero)*g p) (fun p _=>dM ..),sum_add]
  congr 1
  show (if c m=true then f m*g (t m) else zero)=_
  by_cases hc:c m=true
  ·rw[if_pos hc,sum_single _ (h m (by omega)) (fun p _ hp=>by rw[if_neg (fun e=>hp e.2.symm),zm]),if_pos ⟨hc,rfl⟩]
  rw[if_neg hc,sum_congr (g:=fun _=>zero) (fun p _=>by rw[if_neg (fun e=>hc e.1),zm]),sum_zero]
theorem x6k {A:RM R} (d:Inn A) (f:Nat->List Int->List Int->R) {q:Nat} (i:q<A.n) (x y:List Int) :
  sum (fun k=>arcT A f q k x y) (A.na q)=sum (fun k=>nsT A f q k x y) (A.na q)+sum (fun p=>sil A q p*f p x y) A.n:=by
 have h:=y7f (fun k=>A.aw q k) (fun k=>A.ato q k) (fun p=>f p x y) (fun k=>decide (A.ain q k=0/\A.aout q k=0)) A.n (A.na q) (fun k g=>d q k i g);have e:sum (fun p=>sil A q p*f p x y) A.n=sum (fun k=>if decide (A.ain q k=0/\A.aout q k=0)=true then A.aw q k*f (A.ato q k) x y else zero) (A.na q):=by
  rw[h];refine sum_congr fun p _=>?_
  congr 1
  exact sum_congr fun k _=>by simp only[decide_eq_true_eq,and_assoc]
 rw[e,<- sum_add];refine sum_congr fun k _=>?_;unfold nsT;by_cases c:A.ain q k=0/\A.aout q k=0
 ·rw[if_pos c,if_pos (by simp[c]),z0];unfold arcT;rw[c.1,c.2,z2b,z2b]
 rw[if_neg c,if_neg (by simpa using c),a0]
def vlF (A:RM R):Nat->Nat->List Int->List Int->R
 | 0,_,_,_=>zero
 | m+1,q,x,y=>sol (sil A) A.n (fun p=>endT A p x y+sum (fun k=>nsT A (vlF A m) p k x y) (A.na p)) q
def vl (A:RM R) (q:Nat) (x y:List Int):R:=vlF A (x.length+y.length+1) q x y
theorem v2v {A:RM R} (hA:Inn A) (x y:List Int):∀ N q,q<A.n->unr A N q x y=rnd (sil A) A.n (fun N p=>endT A p x y+sum (fun k=>nsT A (unr A N) p k x y) (A.na p)) N q
 | 0,_,_=>rfl
 | N+1,q,hq=>by
  show endT A q x y+sum (fun k=>arcT A (unr A N) q k x y) (A.na q)=_;rw[x6k hA (unr A N) hq,<- aA];show _=_+sum (fun k=>sil A q k*rnd (sil A) A.n _ N k) A.n
  congr 1
  exact sum_congr fun p hp=>by rw[v2v hA x y N p hp]
theorem u3b {A:RM R} {f g:Nat->List Int->List Int->R} {q k:Nat} (h:∀ x y,le (f (A.ato q k) x y) (g (A.ato q k) x y)) (x y:List Int):le (nsT A f q k x y) (nsT A g q k x y):=by
 unfold nsT;split
 ·exact le_refl _
 exact x7q h x y
variable [CSC R]
theorem x2u {A:RM R} (hA:Inn A):∀ m x y,x.length+y.length<m->∀ q,q<A.n->Lub (fun N=>unr A N q x y) (vlF A m q x y)
 | 0,_,_,h=>absurd h (by omega)
 | m+1,x,y,h=>fun q hq=>by
  have hns:∀ p k,p<A.n->k<A.na p->Lub (fun N=>nsT A (unr A N) p k x y) (nsT A (vlF A m) p k x y):=by
   intro p k hp hk;unfold nsT;by_cases hc:A.ain p k=0/\A.aout p k=0
   ·simp only[if_pos hc];exact Lub.const _
   simp only[if_neg hc];unfold arcT;cases h1:red (A.ain p k) x with
   | none=>exact Lub.const _
   | some x' =>
    cases h2:red (A.aout p k) y with
    | none=>exact Lub.const _
    | some y' =>
     refine(x2u hA m x' y' ?_ _ (hA p k hp hk)).mulL _;have l1:=y7h h1;have l2:=y7h h2;by_cases e1:A.ain p k=0
     ·have:=l2.2 (fun e2=>hc ⟨e1,e2⟩);omega
     have:=l1.2 e1;omega
  have hmo:∀ p k,Mono (fun N=>nsT A (unr A N) p k x y):=fun p k N=>u3b (fun x y=>z7b A N _ x y) x y;refine(rnd_lub (sil A) A.n (r:=fun N p=>endT A p x y+sum (fun k=>nsT A (unr A N) p k x y) (A.na p)) (fun p hp=>(Mono.const _).add (Mono.sum fun k _=>hmo p k)) (fun p hp=>(Lub.const _).add (Lub.sum (fun k hk=>hns p k hp hk) fun k _=>hmo p k) (Mono.const _) (Mono.sum fun k _=>hmo p k)) hq).congr fun N=>?_;exact(v2v hA x y N q hq).symm
theorem v8v {A:RM R} (d:Inn A) {q:Nat} (c:q<A.n) (x y:List Int):Lub (fun N=>unr A N q x y) (vl A q x y):=x2u d _ x y (by omega) q c
theorem u4e {A:RM R} (d:Inn A) {m q:Nat} (c:q<A.n) {x y:List Int} (h:x.length+y.length<m):vlF A m q x y=vl A q x y:=(x2u d m x y h q c).eq (v8v d c x y)
def dT (A:RM R) (p:Nat) (x y:List Int):R:=endT A p x y+sum (fun k=>nsT A (vl A) p k x y) (A.na p)
theorem x8v {A:RM R} (d:Inn A) {q:Nat} (z:q<A.n) (x y:List Int):vl A q x y=sol (sil A) A.n (fun p=>dT A p x y) q:=by
 show sum (fun j=>starM (sil A) A.n q j*_) A.n=sum (fun j=>starM (sil A) A.n q j*_) A.n;refine sum_congr fun p l=>?_
 congr 1
 show endT A p x y+_=endT A p x y+_
 congr 1
 refine sum_congr fun k m=>?_;unfold nsT;by_cases c:A.ain p k=0/\A.aout p k=0
 ·rw[if_pos c,if_pos c]
 rw[if_neg c,if_neg c];unfold arcT;cases i:red (A.ain p k) x with
 | none=>rfl
 | some x' =>
  cases o:red (A.aout p k) y with
  | none=>rfl
  | some y' =>
   show _*vlF A _ _ x' y'=_*vl A _ x' y';rw[u4e d (d p k l m)];have u:=y7h i;have h:=y7h o;by_cases g:A.ain p k=0
   ·have:=h.2 (fun s=>c ⟨g,s⟩);omega
   have:=u.2 g;omega
def rel (A:RM R) (x y:List Int):R:=A.lead*vl A A.start x y
theorem z6p {A:RM R} (d:Inn A) (c:A.start<A.n) (x y:List Int):Lub (fun N=>A.lead*unr A N A.start x y) (rel A x y):=(v8v d c x y).mulL _
end
end
section
def lsN (x:Nat->Int):Nat->Nat->List Int
 | 0,_=>[]
 | k+1,i=>x i::lsN x k (i+1)
def ls (x:Nat->Int) (n i:Nat):List Int:=lsN x (n-i) i
theorem v8u {x:Nat->Int} {n i:Nat} (h:n<=i):ls x n i=[]:=by unfold ls;rw[show n-i=0 by omega];rfl
theorem v0r {x:Nat->Int} {n i:Nat} (h:i<n):ls x n i=x i::ls x n (i+1):=by
 unfold ls;rw[show n-i=(n-(i+1))+1 by omega];rfl
theorem x5k {x:Nat->Int} {n i:Nat} (h:i<=n):ls x n i=[]↔i=n:=by
 constructor
 ·intro e;by_cases c:i<n
  ·rw[v0r c] at e;cases e
  omega
 intro e;exact v8u (by omega)
theorem v0m {x:Nat->Int} {n i:Nat} (g:∀ i,i<n->x i≠0) {s:Int} (d:s≠0):red s (ls x n i)=if i<n/\s=x i then some (ls x n (i+1)) else none:=by
 by_cases h:i<n
 ·rw[v0r h];by_cases e:s=x i
  ·rw[if_pos ⟨h,e⟩,<- e,x4x d]
  rw[if_neg (fun c=>e c.2),v0b d (fun c=>e c.symm)]
 rw[v8u (by omega),x2i d,if_neg (fun c=>h c.1)]
open CSR
section
variable {R:Type} [CSR R]
theorem ite2 (a b:Prop) [Decidable a] [Decidable b] (v z:R):(if a then if b then v else z else z)=if a/\b then v else z:=by
 by_cases h:a<;>by_cases k:b<;>simp[h,k]
def dot (n:Nat) (v c:Nat->R):R:=sum (fun q=>v q*c q) n
theorem z1h {n:Nat} {v v' c c':Nat->R} (h:∀ q,q<n->v q=v' q) (k:∀ q,q<n->c q=c' q):dot n v c=dot n v' c':=sum_congr fun q d=>by rw[h q d,k q d]
theorem y8a (n:Nat) (v u c:Nat->R):dot n (fun q=>v q+u q) c=dot n v c+dot n u c:=by
 unfold dot;rw[<- sum_add];exact sum_congr fun q _=>dM ..
theorem y8b (n:Nat) (v c d:Nat->R):dot n v (fun q=>c q+d q)=dot n v c+dot n v d:=by
 unfold dot;rw[<- sum_add];exact sum_congr fun q _=>mD ..
theorem y0s (n:Nat) (c:Nat->R):dot n (fun _=>zero) c=zero:=by
 unfold dot;rw[sum_congr (g:=fun _=>zero) (fun q _=>zm _),sum_zero]
theorem y8y (n:Nat) (v:Nat->R):dot n v (fun _=>zero)=zero:=by
 unfold dot;rw[sum_congr (g:=fun _=>zero) (fun q _=>m0 _),sum_zero]
def rst (M:Nat->Nat->R) (n:Nat) (v:Nat->R) (p:Nat):R:=sum (fun q=>v q*starM M n q p) n
theorem x2k (M:Nat->Nat->R) (n:Nat) (v d:Nat->R):dot n v (sol M n d)=dot n (rst M n v) d:=by
 unfold dot sol rst;rw[sum_congr (g:=fun q=>sum (fun p=>v q*(starM M n q p*d p)) n) (fun q _=>mul_sum _ _ _),sum_comm];refine sum_congr fun p _=>?_;rw[sum_mul];exact sum_congr fun q _=>(mA ..).symm
def mmv (A:RM R) (i o:Int) (c:Nat->R) (q:Nat):R:=sum (fun k=>if A.ain q k=i/\A.aout q k=o then A.aw q k*c (A.ato q k) else zero) (A.na q)
def stp (A:RM R) (i o:Int) (f:Nat->R) (p:Nat):R:=sum (fun q=>sum (fun k=>if A.ain q k=i/\A.aout q k=o/\A.ato q k=p then f q*A.aw q k else zero) (A.na q)) A.n
theorem y7i {A:RM R} (d:Inn A) (i o:Int) (f c:Nat->R):dot A.n (stp A i o f) c=dot A.n f (mmv A i o c):=by
 unfold dot stp mmv;rw[sum_congr (g:=fun p=>sum (fun q=>f q*(sum (fun k=>if A.ain q k=i/\A.aout q k=o/\A.ato q k=p then A.aw q k else zero) (A.na q)*c p)) A.n) (fun p _=>?_),sum_comm]
 ·refine sum_congr fun q l=>?_;rw[<- mul_sum]
  congr 1
  have h:=y7f (fun k=>A.aw q k) (fun k=>A.ato q k) c (fun k=>decide (A.ain q k=i/\A.aout q k=o)) A.n (A.na q) (fun k j=>d q k l j);refine Eq.trans ?_ (h.symm.trans (sum_congr fun k _=>by simp only[decide_eq_true_eq]));refine sum_congr fun p _=>?_
  congr 1
  exact sum_congr fun k _=>by simp only[decide_eq_true_eq,and_assoc]
 rw[sum_mul];refine sum_congr fun q _=>?_;rw[<- mA,mul_sum]
 congr 1
 exact sum_congr fun k _=>by
  by_cases e:A.ain q k=i/\A.aout q k=o/\A.ato q k=p
  ·rw[if_pos e,if_pos e]
  rw[if_neg e,if_neg e,m0]
variable [CSC R]
section
variable {A:RM R} {na nb:Nat} {x y:Nat->Int} (hx:∀ i,i<na->x i≠0) (hy:∀ j,j<nb->y j≠0)
def cAt (A:RM R) (na:Nat) (x:Nat->Int) (nb:Nat) (y:Nat->Int) (i j q:Nat):R:=vl A q (ls x na i) (ls y nb j)
def fAt (A:RM R) (na nb i j p:Nat):R:=if i=na/\j=nb then A.fin p else zero
def gAt (b:Bool) (v:R):R:=if b=true then v else zero
include hx hy
theorem y6q {i j p:Nat} (hi:i<=na) (u:j<=nb):dT A p (ls x na i) (ls y nb j) =
  fAt A na nb i j p+(gAt (decide (j<nb)) (mmv A 0 (y j) (cAt A na x nb y i (j+1)) p)+(gAt (decide (i<na)) (mmv A (x i) 0 (cAt A na x nb y (i+1) j) p)+gAt (decide (i<na)&&decide (j<nb)) (mmv A (x i) (y j) (cAt A na x nb y (i+1) (j+1)) p))):=by
 unfold dT;have z:endT A p (ls x na i) (ls y nb j)=fAt A na nb i j p:=by
  unfold endT fAt;by_cases e:i=na/\j=nb
  ·rw[if_pos e,if_pos ⟨(x5k hi).2 e.1,(x5k u).2 e.2⟩]
  rw[if_neg e,if_neg (fun h=>e ⟨(x5k hi).1 h.1,(x5k u).1 h.2⟩)]
 rw[z]
 congr 1
 have s:∀ (b:Bool) (f:Nat->R) (m:Nat),gAt b (sum f m)=sum (fun k=>gAt b (f k)) m:=fun b f m=>by
  unfold gAt;cases b
  ·simp only[Bool.false_eq_true,if_false];rw[sum_zero]
  simp
 unfold mmv;rw[s,s,s,<- sum_add,<- sum_add];refine sum_congr fun k _=>?_;unfold nsT arcT gAt cAt;by_cases c:A.ain p k=0
 ·by_cases o0:A.aout p k=0
  ·rw[if_pos ⟨c,o0⟩];have o:¬ (decide (j<nb)=true/\A.ain p k=0/\A.aout p k=y j):=fun h=>hy j (by simpa using h.1) (by rw[<- h.2.2,o0]);have l:¬ (decide (i<na)=true/\A.ain p k=x i/\A.aout p k=0):=fun h=>hx i (by simpa using h.1) (by rw[<- h.2.1,c]);have g:¬ ((decide (i<na)&&decide (j<nb))=true/\A.ain p k=x i/\A.aout p k=y j):=fun h=>hx i (by have:=h.1;simp at this;exact this.1) (by rw[<- h.2.1,c]);rw[ite2,if_neg o,ite2,if_neg l,ite2,if_neg g,a0,a0]
  rw[if_neg (fun h=>o0 h.2),c,z2b,v0m hy o0];have l:¬ (decide (i<na)=true/\(0:Int)=x i/\A.aout p k=0):=fun h=>o0 h.2.2;have g:¬ ((decide (i<na)&&decide (j<nb))=true/\(0:Int)=x i/\A.aout p k=y j):=fun h=>hx i (by have:=h.1;simp at this;exact this.1) h.2.1.symm;rw[ite2,ite2,if_neg l,ite2,if_neg g,a0,a0];by_cases e:j<nb/\A.aout p k=y j
  ·rw[if_pos e,if_pos ⟨by simpa using e.1,rfl,e.2⟩]
  rw[if_neg e,if_neg (fun h=>e ⟨by simpa using h.1,h.2.2⟩)]
 rw[if_neg (fun h=>c h.1),v0m hx c];have o:¬ (decide (j<nb)=true/\A.ain p k=0/\A.aout p k=y j):=fun h=>c h.2.1;rw[ite2,if_neg o,z0];by_cases o0:A.aout p k=0
 ·rw[o0,z2b];have g:¬ ((decide (i<na)&&decide (j<nb))=true/\A.ain p k=x i/\(0:Int)=y j):=fun h=>hy j (by have:=h.1;simp at this;exact this.2) h.2.2.symm;rw[ite2,ite2,if_neg g,a0];by_cases e:i<na/\A.ain p k=x i
  ·rw[if_pos e,if_pos ⟨by simpa using e.1,e.2,rfl⟩]
  rw[if_neg e,if_neg (fun h=>e ⟨by simpa using h.1,h.2.1⟩)]
 rw[v0m hy o0];have l:¬ (decide (i<na)=true/\A.ain p k=x i/\A.aout p k=0):=fun h=>o0 h.2.2;rw[ite2,if_neg l,ite2,z0];by_cases e:i<na/\A.ain p k=x i
 ·rw[if_pos e];by_cases d:j<nb/\A.aout p k=y j
  ·rw[if_pos d,if_pos ⟨by simp[e.1,d.1],e.2,d.2⟩]
  rw[if_neg d,if_neg (fun h=>d ⟨by have:=h.1;simp at this;exact this.2,h.2.2⟩)]
 have B:¬ ((decide (i<na)&&decide (j<nb))=true/\A.ain p k=x i/\A.aout p k=y j):=fun h=>e ⟨by have:=h.1;simp at this;exact this.1,h.2.1⟩;rw[if_neg e,if_neg B]
omit hx hy
def phi (A:RM R) (na:Nat) (x:Nat->Int) (nb:Nat) (y:Nat->Int) (i j:Nat) (row next:Nat->Nat->R):R :=
 sumFrom (fun j'=>dot A.n (row j') (cAt A na x nb y i j')) j (nb+1)+gAt (decide (i<na)) (sum (fun j'=>dot A.n (next j') (cAt A na x nb y (i+1) j')) (nb+1))
theorem x1p {f g:Nat->R} {n m:Nat} {d:R} (c:m<n) (h:g m=f m+d) (j:∀ i,i<n->i≠m->g i=f i):sum g n=sum f n+d:=by
 rw[sum_pick g c,sum_pick f c,h,sum_congr (f:=fun i=>if i=m then zero else g i) (g:=fun i=>if i=m then zero else f i) (fun i hi=>by
  by_cases e:i=m
  ·rw[if_pos e,if_pos e]
  rw[if_neg e,if_neg e,j i hi e]),aA,aA,aC d]
structure Cell (A:RM R) (na:Nat) (x:Nat->Int) (nb:Nat) (y:Nat->Int) (i j:Nat) (f:Nat->R) (row next row' next':Nat->Nat->R):Prop where
 hf:∀ p,p<A.n->f p=rst (sil A) A.n (row j) p
 r1:j<nb->∀ p,p<A.n->row' (j+1) p=row (j+1) p+stp A 0 (y j) f p
 ro:∀ j',j<j'->j'<=nb->j'≠j+1->∀ p,p<A.n->row' j' p=row j' p
 n0:i<na->∀ p,p<A.n->next' j p=next j p+stp A (x i) 0 f p
 n1:i<na->j<nb->∀ p,p<A.n->next' (j+1) p=next (j+1) p+stp A (x i) (y j) f p
 no:i<na->∀ j',j'<=nb->j'≠j->j'≠j+1->∀ p,p<A.n->next' j' p=next j' p
include hx hy
theorem Cell.phi {A:RM R} (B:Inn A) {i j:Nat} {f:Nat->R} {row next m next':Nat->Nat->R} (h:Cell A na x nb y i j f row next m next') (hi:i<=na) (G:j<=nb) :
  phi A na x nb y i j row next=dot A.n f (fAt A na nb i j)+phi A na x nb y i (j+1) m next':=by
 unfold Go.Proofs.YteappjogmnogcaaGreatDoor.phi;rw[sumFrom_step _ (show j<nb+1 by omega)];have J:dot A.n (row j) (cAt A na x nb y i j)=dot A.n f (fAt A na nb i j)+(gAt (decide (j<nb)) (dot A.n (stp A 0 (y j) f) (cAt A na x nb y i (j+1)))+(gAt (decide (i<na)) (dot A.n (stp A (x i) 0 f) (cAt A na x nb y (i+1) j))+gAt (decide (i<na)&&decide (j<nb)) (dot A.n (stp A (x i) (y j) f) (cAt A na x nb y (i+1) (j+1))))):=by
  rw[z1h (v':=row j) (c:=cAt A na x nb y i j) (c':=sol (sil A) A.n (fun p=>dT A p (ls x na i) (ls y nb j))) (fun _ _=>rfl) (fun q H=>x8v B H _ _),x2k];rw[z1h (v':=f) (c':=fun p=>fAt A na nb i j p+(gAt (decide (j<nb)) (mmv A 0 (y j) (cAt A na x nb y i (j+1)) p)+(gAt (decide (i<na)) (mmv A (x i) 0 (cAt A na x nb y (i+1) j) p)+gAt (decide (i<na)&&decide (j<nb)) (mmv A (x i) (y j) (cAt A na x nb y (i+1) (j+1)) p)))) (fun p E=>(h.hf p E).symm) (fun p _=>y6q hx hy hi G)];rw[y8b,y8b,y8b];have C:∀ (b:Bool) (c:Nat->R),dot A.n f (fun p=>gAt b (c p))=gAt b (dot A.n f c):=fun b c=>by
   unfold gAt;cases b
   ·simp only[Bool.false_eq_true,if_false];exact y8y _ _
   simp
  rw[C,C,C,y7i B,y7i B,y7i B]
 have K:sumFrom (fun g=>dot A.n (m g) (cAt A na x nb y i g)) (j+1) (nb+1)=sumFrom (fun g=>dot A.n (row g) (cAt A na x nb y i g)) (j+1) (nb+1)+gAt (decide (j<nb)) (dot A.n (stp A 0 (y j) f) (cAt A na x nb y i (j+1))):=by
  unfold sumFrom;by_cases k:j<nb
  ·unfold gAt;rw[if_pos (by simpa using k)];refine x1p (show j+1<nb+1 by omega) ?_ (fun z u o=>?_)
   ·rw[if_neg (by omega),if_neg (by omega),<- y8a];exact z1h (h.r1 k) (fun _ _=>rfl)
   by_cases e:z<j+1
   ·rw[if_pos e,if_pos e]
   rw[if_neg e,if_neg e];exact z1h (h.ro z (by omega) (by omega) o) (fun _ _=>rfl)
  unfold gAt;rw[if_neg (by simpa using k),a0];exact sum_congr fun z u=>by rw[if_pos (by omega),if_pos (by omega)]
 have F:gAt (decide (i<na)) (sum (fun g=>dot A.n (next' g) (cAt A na x nb y (i+1) g)) (nb+1))=gAt (decide (i<na)) (sum (fun g=>dot A.n (next g) (cAt A na x nb y (i+1) g)) (nb+1))+(gAt (decide (i<na)) (dot A.n (stp A (x i) 0 f) (cAt A na x nb y (i+1) j))+gAt (decide (i<na)&&decide (j<nb)) (dot A.n (stp A (x i) (y j) f) (cAt A na x nb y (i+1) (j+1)))):=by
  by_cases l:i<na
  ·have D:sum (fun g=>dot A.n (next' g) (cAt A na x nb y (i+1) g)) (nb+1)=sum (fun g=>if g=j+1 then dot A.n (next g) (cAt A na x nb y (i+1) g) else dot A.n (next' g) (cAt A na x nb y (i+1) g)) (nb+1)+gAt (decide (j<nb)) (dot A.n (stp A (x i) (y j) f) (cAt A na x nb y (i+1) (j+1))):=by
    by_cases k:j<nb
    ·unfold gAt;rw[if_pos (by simpa using k)];refine x1p (show j+1<nb+1 by omega) ?_ (fun z u o=>by rw[if_neg o]);rw[if_pos rfl,<- y8a];exact z1h (h.n1 l k) (fun _ _=>rfl)
    unfold gAt;rw[if_neg (by simpa using k),a0];exact sum_congr fun z u=>by rw[if_neg (by omega)]
   have I:sum (fun g=>if g=j+1 then dot A.n (next g) (cAt A na x nb y (i+1) g) else dot A.n (next' g) (cAt A na x nb y (i+1) g)) (nb+1)=sum (fun g=>dot A.n (next g) (cAt A na x nb y (i+1) g)) (nb+1)+dot A.n (stp A (x i) 0 f) (cAt A na x nb y (i+1) j):=by
    refine x1p (show j<nb+1 by omega) ?_ (fun z u o=>?_)
    ·rw[if_neg (by omega),<- y8a];exact z1h (h.n0 l) (fun _ _=>rfl)
    by_cases e:z=j+1
    ·rw[if_pos e]
    rw[if_neg e];exact z1h (h.no l z (by omega) o e) (fun _ _=>rfl)
   unfold gAt at D ⊢;rw[decide_eq_true l,Bool.true_and,if_pos rfl,if_pos rfl,if_pos rfl,D,I,aA]
  unfold gAt;rw[decide_eq_false l];simp[a0]
 rw[J,K,F];generalize dot A.n f (fAt A na nb i j)=a;generalize gAt (decide (j<nb)) (dot A.n (stp A 0 (y j) f) (cAt A na x nb y i (j+1)))=b;generalize gAt (decide (i<na)) (dot A.n (stp A (x i) 0 f) (cAt A na x nb y (i+1) j))=c;generalize gAt (decide (i<na)&&decide (j<nb)) (dot A.n (stp A (x i) (y j) f) (cAt A na x nb y (i+1) (j+1)))=d;generalize sumFrom (fun g=>dot A.n (row g) (cAt A na x nb y i g)) (j+1) (nb+1)=s;generalize gAt (decide (i<na)) (sum (fun g=>dot A.n (next g) (cAt A na x nb y (i+1) g)) (nb+1))=t;rw[aA,aA,aA]
 congr 1
 generalize c+d=e;rw[aL e s t,aL b s,aA s b]
 congr 1
 rw[aC e t]
omit hx hy
theorem y8z {A:RM R} (B:Inn A) (l:A.start<A.n) {row next:Nat->Nat->R} (k:∀ p,p<A.n->row 0 p=if p=A.start then A.lead else zero) (s:∀ j,0<j->j<=nb->∀ p,p<A.n->row j p=zero) (hn:∀ j,j<=nb->∀ p,p<A.n->next j p=zero) :
  phi A na x nb y 0 0 row next=rel A (ls x na 0) (ls y nb 0):=by
 unfold phi;have m:∀ (v c:Nat->R),(∀ p,p<A.n->v p=zero)->dot A.n v c=zero:=fun v c h=>by rw[z1h (v':=fun _=>zero) (c':=c) h (fun _ _=>rfl),y0s]
 have z:sum (fun i=>dot A.n (next i) (cAt A na x nb y (0+1) i)) (nb+1)=zero:=by
  rw[sum_congr (g:=fun _=>zero) (fun j u=>m _ _ (hn j (by omega))),sum_zero]
 rw[z,show gAt (decide (0<na)) (zero:R)=zero by unfold gAt;split<;>rfl,a0,sumFrom_zero,sum_single _ (show 0<nb+1 by omega) (fun j u d=>m _ _ (s j (by omega) (by omega)))]
 unfold dot rel;rw[sum_single _ l (fun p o d=>by rw[k p o,if_neg d,zm]),k _ l,if_pos rfl];rfl
theorem x8k {A:RM R} {i:Nat} {row next:Nat->Nat->R} (hi:i<na) {next':Nat->Nat->R} (hn:∀ j,j<=nb->∀ p,p<A.n->next' j p=zero) :
  phi A na x nb y i (nb+1) row next=phi A na x nb y (i+1) 0 next next':=by
 unfold phi;rw[sumFrom_end,z0,sumFrom_zero];have d:sum (fun c=>dot A.n (next' c) (cAt A na x nb y (i+1+1) c)) (nb+1)=zero:=by
  rw[sum_congr (g:=fun _=>zero) (fun j h=>by rw[z1h (v':=fun _=>zero) (c':=_) (hn j (by omega)) (fun _ _=>rfl),y0s]),sum_zero]
 rw[d,show gAt (decide (i+1<na)) (zero:R)=zero by unfold gAt;split<;>rfl,a0]
 unfold gAt;rw[if_pos (by simpa using hi)]
theorem x3e {A:RM R} {row next:Nat->Nat->R}:phi A na x nb y na (nb+1) row next=zero:=by
 unfold phi gAt;rw[sumFrom_end,z0];simp
theorem x8g {A:RM R} {i j:Nat} (f:Nat->R) (h:¬ (i=na/\j=nb)):dot A.n f (fAt A na nb i j)=zero:=by
 rw[z1h (v':=f) (c':=fun _=>zero) (fun _ _=>rfl) (fun p _=>by unfold fAt;rw[if_neg h]),y8y]
theorem x9r {A:RM R} (f:Nat->R):dot A.n f (fAt A na nb na nb)=dot A.n f A.fin:=z1h (fun _ _=>rfl) (fun p _=>by unfold fAt;rw[if_pos ⟨rfl,rfl⟩])
end
end
end
section
abbrev StarO:=Option (Nat->Nat->ByteArray)
def rstP (k:Int) (S:Nat->Nat->ByteArray) (v:Nat->ByteArray) (q:Nat):Nat->WS->WS
 | 0,s=>s
 | p+1,s=>if v q=⟨#[]⟩\/S q p=z1j k then rstP k S v q p s
  else (updS (rstP k S v q p s).1 p (z2e k ((rstP k S v q p s).1 p) (z0t k (v q) (S q p) (rstP k S v q p s).2).1 (z0t k (v q) (S q p) (rstP k S v q p s).2).2).1,(z2e k ((rstP k S v q p s).1 p) (z0t k (v q) (S q p) (rstP k S v q p s).2).1 (z0t k (v q) (S q p) (rstP k S v q p s).2).2).2)
def rstQ (k:Int) (S:Nat->Nat->ByteArray) (v:Nat->ByteArray) (n:Nat):Nat->WS->WS
 | 0,s=>s
 | q+1,s=>rstP k S v q n (rstQ k S v n q s)
def z5s (k:Int) (n:Nat) (st:StarO) (v:Nat->ByteArray) (e:Nat):WS:=match st with
 | none=>(v,e)
 | some S=>if e≠0 then (v,e) else rstQ k S v n n (z1d,e)
def y0f (D:MD) (st:StarO) (na:Nat) (x:Nat->Int) (nb:Nat) (y:Nat->Int) (i j:Nat) (s:RS):RS :=
 match s.1 false j with
 | none=>s
 | some v=>cell3 D na x nb y i j (z5s D.kind D.n st v s.2).1 (cell2 D na x i j (z5s D.kind D.n st v s.2).1 (cell1 D nb y j (z5s D.kind D.n st v s.2).1 (updV s.1 false j (z5s D.kind D.n st v s.2).1,(z5s D.kind D.n st v s.2).2)))
def colG (D:MD) (st:StarO) (na:Nat) (x:Nat->Int) (nb:Nat) (y:Nat->Int) (i:Nat):Nat->RS->RS
 | 0,s=>s
 | j+1,s=>y0f D st na x nb y i j (colG D st na x nb y i j s)
def outG (D:MD) (st:StarO) (na:Nat) (x:Nat->Int) (nb:Nat) (y:Nat->Int):Nat->Nat->(Nat->Option VV)->Nat->ByteArray × Nat
 | 0,_,_,e=>finC D z1d e
 | k+1,i,row,e =>
  if e≠0 then finC D z1d e
  else if i=na/\((colG D st na x nb y i (nb+1) (twoR row (fun _=>none),e)).1 false nb).isSome=true then
   finC D (((colG D st na x nb y i (nb+1) (twoR row (fun _=>none),e)).1 false nb).getD z1d) (colG D st na x nb y i (nb+1) (twoR row (fun _=>none),e)).2
  else outG D st na x nb y k (i+1) ((colG D st na x nb y i (nb+1) (twoR row (fun _=>none),e)).1 true) (colG D st na x nb y i (nb+1) (twoR row (fun _=>none),e)).2
def wgtG (D:MD) (st:StarO) (e0:Nat) (na:Nat) (x:Nat->Int) (nb:Nat) (y:Nat->Int):ByteArray × Nat:=outG D st na x nb y (na+1) 0 (fun j=>if j=0 then some (z7y D) else none) e0
def Sv (k:KK) (s:ByteArray) (x:RK k):Prop:=s=vtxt x.1/\fitV x.1
def Pv (k:KK) (s:ByteArray) (x:RK k):Prop:=(s=⟨#[]⟩/\x=CSR.zero)\/Sv k s x
section
variable {k:KK}
theorem Sv.prs {s:ByteArray} {x:RK k} (h:Sv k s x):vprs k.1 s=some x.1:=by rw[h.1];exact x4c h.2 x.2
theorem Sv.ne {s:ByteArray} {x:RK k} (h:Sv k s x):s≠⟨#[]⟩:=fun e=>by
 have c:=h.prs;rw[e] at c;have g:=(y2v (z3c.1 c).1).1;have i:(vtxt x.1).size=0:=by rw[<- g];rfl
 have d:=y7n h.2;rw[<- g] at d;exact absurd d (by rw[show rdV ⟨#[]⟩=none by decide +kernel];simp)
theorem Sv.inj {s:ByteArray} {x y:RK k} (h:Sv k s x) (d:Sv k s y):x=y:=by
 have c:=h.prs;rw[d.prs] at c;exact RK.ext (Option.some.inj c).symm
theorem Sv.text {s t:ByteArray} {x:RK k} (h:Sv k s x) (c:Sv k t x):s=t:=by rw[h.1,c.1]
theorem Sv.zero:Sv k (z1j k.1) (CSR.zero:RK k):=(Is.zero k 0).2 rfl
theorem Sv.one:Sv k (oneF k.1) (CSR.one:RK k):=(Is.one k 0).2 rfl
theorem Sv.eq_zero {s:ByteArray} {x:RK k} (h:Sv k s x):s=z1j k.1↔x=CSR.zero:=by
 constructor
 ·intro e;rw[e] at h;exact h.inj Sv.zero
 intro e;rw[e] at h;exact h.text Sv.zero
theorem Sv.val {s:ByteArray} {x:RK k} (h:Sv k s x):wval k s=x:=by
 have d:=h.prs;unfold wval
 split
 ·rename_i v c;rw[d] at c;cases c;rfl
 rename_i c;rw[d] at c;cases c
theorem v8y {s:ByteArray} (h:z0p k.1 s=true):Sv k s (wval k s):=(x8s h).2 rfl
theorem z4q {j:Int} (c:k.1=j) {s:ByteArray} (h:z0s j s=true):Sv k s (wval k s):=by subst c;exact v8y (v3w h)
theorem v8k {v:V} (h:(limV v).2=0):limV v=(vtxt v,0)/\fitV v:=by
 rcases z8a v with ⟨d,c⟩|⟨_,c⟩
 ·exact⟨c,d⟩
 rw[c] at h;cases h
theorem y7s {a b:ByteArray} {x y:RK k} (d:Sv k a x) (hb:Sv k b y) (h:(z1i k.1 a b).2=0):Sv k (z1i k.1 a b).1 (x+y):=by
 have g:z1i k.1 a b=limV (x+y).1:=by unfold z1i;rw[d.prs,hb.prs];rfl
 rw[g] at h ⊢;obtain⟨c,i⟩:=v8k h;rw[c];exact⟨rfl,i⟩
theorem y9r {a b:ByteArray} {x y:RK k} (d:Sv k a x) (hb:Sv k b y) (h:(z0n k.1 a b).2=0):Sv k (z0n k.1 a b).1 (x*y):=by
 have g:z0n k.1 a b=limV (x*y).1:=by unfold z0n;rw[d.prs,hb.prs];rfl
 rw[g] at h ⊢;obtain⟨c,i⟩:=v8k h;rw[c];exact⟨rfl,i⟩
theorem y2w {j:Int} (m:k.1=j) {a b:ByteArray} {x y:RK k} {e:Nat} (i:Pv k a x) (hb:Sv k b y) (h:(z2e j a b e).2=0):e=0/\Sv k (z2e j a b e).1 (x+y):=by
 subst m;unfold z2e at h ⊢;by_cases d:a=⟨#[]⟩\/e≠0
 ·rw[if_pos d] at h ⊢;have l:e=0:=h;have g:a=⟨#[]⟩:=d.resolve_right (fun h=>h l)
  rcases i with ⟨_,rfl⟩|c
  ·exact⟨l,by rw[CSR.z0];exact hb⟩
  exact absurd g c.ne
 rw[if_neg d] at h ⊢;refine⟨by omega,?_⟩
 rcases i with ⟨c,_⟩|c
 ·exact absurd (.inl c) d
 exact y7s c hb h
theorem y4a {j:Int} (g:k.1=j) {a b:ByteArray} {x y:RK k} {e:Nat} (d:Sv k a x) (hb:Sv k b y) (h:(z0t j a b e).2=0):e=0/\Sv k (z0t j a b e).1 (x*y):=by
 subst g;unfold z0t at h ⊢;by_cases c:e≠0
 ·rw[if_pos c] at h;exact absurd h c
 rw[if_neg c] at h ⊢;exact⟨by omega,y9r d hb h⟩
theorem Pv.zero {s:ByteArray}:Pv k ⟨#[]⟩ (CSR.zero:RK k):=.inl ⟨rfl,rfl⟩
theorem Pv.eq {s:ByteArray} {x y:RK k} (h:Pv k s x) (e:x=y):Pv k s y:=e ▸ h
end
def rmOf (k:KK) (D:MD):RM (RK k) :=
 { n:=D.n,start:=D.start.toNat,lead:=wval k D.lead,fin:=fun q=>if D.fin q=⟨#[]⟩ then CSR.zero else wval k (D.fin q),na:=D.na,ain:=D.ain,aout:=D.aout,aw:=fun q d=>wval k (D.aw q d),ato:=fun q d=>(D.ato q d).toNat }
theorem VM.inn {D:MD} (h:VM D) (k:KK):Inn (rmOf k D):=fun q d i g=>by
 have c:=h.arc q d i g;have:=c.t0;have:=c.t1;show (D.ato q d).toNat<D.n;omega
theorem VM.stn {D:MD} (h:VM D) (k:KK):(rmOf k D).start<(rmOf k D).n:=by
 have:=h.s0;have:=h.s1;show D.start.toNat<D.n;omega
theorem VM.kk {D:MD} (h:VM D):∃ k:KK,k.1=D.kind:=by
 have c:=h.kind;unfold z4c at c;simp at c;exact⟨⟨D.kind,by omega⟩,rfl⟩
section
variable {D:MD} (hV:VM D) {k:KK} (hk:k.1=D.kind)
open CSR
def stq (A:RM (RK k)) (i o:Int) (f:Nat->RK k) (q:Nat) (p:Nat):RK k:=sum (fun q=>sum (fun d=>if A.ain q d=i/\A.aout q d=o/\A.ato q d=p then f q*A.aw q d else zero) (A.na q)) q
include hV hk
theorem x5f {sel:Int->Int->Bool} {i o:Int} (hsel:∀ a b,sel a b=true↔a=i/\b=o) {v:Nat->ByteArray} {q:Nat} {xq:RK k} (hq:q<D.n) (hv:Sv k (v q) xq):∀ (d:Nat) {s:WS} {lv:Nat->RK k},d<=D.na q->(∀ p,p<D.n->Pv k (s.1 p) (lv p))->(z4d D sel v q d s).2=0 ->
  s.2=0/\∀ p,p<D.n->Pv k ((z4d D sel v q d s).1 p) (lv p+sum (fun d=>if (rmOf k D).ain q d=i/\(rmOf k D).aout q d=o/\(rmOf k D).ato q d=p then xq*(rmOf k D).aw q d else zero) d)
 | 0,s,lv,_,h,he=>⟨he,fun p hp=>(h p hp).eq (a0 _).symm⟩
 | d+1,s,lv,hd,h,he=>by
  have hst:z4d D sel v q (d+1) s=arcC D sel v q d (z4d D sel v q d s):=rfl;rw[hst] at he ⊢;have ha:=hV.arc q d hq (by omega);have ht:(D.ato q d).toNat<D.n:=by have:=ha.t0;have:=ha.t1;omega
  have hw:=z4q hk ha.wt;generalize hZ:z4d D sel v q d s=Z at he ⊢;have ih:=x5f hsel hq hv (s:=s) (lv:=lv) d (by omega) h;rw[hZ] at ih;unfold arcC at he ⊢;by_cases hm:sel (D.ain q d) (D.aout q d)=true
  ·rw[if_pos hm] at he ⊢;have hm':=(hsel _ _).1 hm;have hz:Z.2=0:=by
    by_cases e:Z.2=0
    ·exact e
    exfalso
    have h1:z0t D.kind (v q) (D.aw q d) Z.2=(v q,Z.2):=if_pos e;rw[h1] at he;have h2:z2e D.kind (Z.1 (D.ato q d).toNat) (v q) Z.2=(v q,Z.2):=if_pos (.inr e);rw[h2] at he;exact e he
   obtain⟨hs0,ih⟩:=ih hz;refine⟨hs0,fun p hp=>?_⟩;have hpl:(z2e D.kind (Z.1 (D.ato q d).toNat) (z0t D.kind (v q) (D.aw q d) Z.2).1 (z0t D.kind (v q) (D.aw q d) Z.2).2).2=0:=he;have htm:(z0t D.kind (v q) (D.aw q d) Z.2).2=0:=by
    by_cases e:(z0t D.kind (v q) (D.aw q d) Z.2).2=0
    ·exact e
    have h2:z2e D.kind (Z.1 (D.ato q d).toNat) (z0t D.kind (v q) (D.aw q d) Z.2).1 (z0t D.kind (v q) (D.aw q d) Z.2).2=((z0t D.kind (v q) (D.aw q d) Z.2).1,(z0t D.kind (v q) (D.aw q d) Z.2).2):=if_pos (.inr e);rw[h2] at hpl;exact absurd hpl e
   have h1:=(y4a hk hv hw htm).2;have h2:=(y2w hk (ih _ ht) h1 hpl).2;show Pv k (updS Z.1 (D.ato q d).toNat _ p) _;unfold updS;by_cases e:p=(D.ato q d).toNat
   ·rw[if_pos e];refine .inr ?_;show Sv k _ (lv p+(sum _ d+(if D.ain q d=i/\D.aout q d=o/\(D.ato q d).toNat=p then xq*wval k (D.aw q d) else zero)))
    rw[if_pos ⟨hm'.1,hm'.2,e.symm⟩,<- aA,e];exact h2
   rw[if_neg e];refine(ih p hp).eq ?_;show _=lv p+(sum _ d+(if D.ain q d=i/\D.aout q d=o/\(D.ato q d).toNat=p then xq*wval k (D.aw q d) else zero))
   rw[if_neg (fun h=>e h.2.2.symm),a0]
  rw[if_neg hm] at he ⊢;obtain⟨hs0,ih⟩:=ih he;refine⟨hs0,fun p hp=>(ih p hp).eq ?_⟩;show _=lv p+(sum _ d+(if D.ain q d=i/\D.aout q d=o/\(D.ato q d).toNat=p then xq*wval k (D.aw q d) else zero))
  rw[if_neg (fun h=>hm ((hsel _ _).2 ⟨h.1,h.2.1⟩)),a0]
theorem y2t {sel:Int->Int->Bool} {i o:Int} (hsel:∀ a b,sel a b=true↔a=i/\b=o) {v:Nat->ByteArray} {vv:Nat->RK k} (hv:∀ q,q<D.n->Pv k (v q) (vv q)):∀ (q:Nat) {s:WS} {lv:Nat->RK k},q<=D.n->(∀ p,p<D.n->Pv k (s.1 p) (lv p))->(z3q D sel v q s).2=0 ->
  s.2=0/\∀ p,p<D.n->Pv k ((z3q D sel v q s).1 p) (lv p+stq (rmOf k D) i o vv q p)
 | 0,s,lv,_,h,he=>⟨he,fun p hp=>(h p hp).eq (a0 _).symm⟩
 | q+1,s,lv,hq,h,he=>by
  have hst:z3q D sel v (q+1) s=rowC D sel v q (z3q D sel v q s):=rfl;rw[hst] at he ⊢;unfold rowC at he ⊢
  rcases hv q (by omega) with ⟨h1,h2⟩|h1
  ·rw[if_pos h1] at he ⊢;obtain⟨hs0,ih⟩:=y2t hsel hv (s:=s) (lv:=lv) q (by omega) h he;refine⟨hs0,fun p hp=>(ih p hp).eq ?_⟩;show _=lv p+(stq (rmOf k D) i o vv q p+sum _ _);rw[sum_congr (g:=fun _=>zero) (fun d _=>by split;exact(by rw[h2,zm]);rfl),sum_zero,a0]
  rw[if_neg h1.ne] at he ⊢;have hz:(z3q D sel v q s).2=0:=by
   have h3:∀ d (s:WS),(z4d D sel v q d s).2=0->s.2=0:=by
    intro d
    induction d with
    | zero=>intro s h;exact h
    | succ d ih =>
     intro s h;refine ih s ?_;by_cases e:(z4d D sel v q d s).2=0
     ·exact e
     have h':(arcC D sel v q d (z4d D sel v q d s)).2=0:=h;unfold arcC at h'
     split at h'
     ·have h1:z0t D.kind (v q) (D.aw q d) (z4d D sel v q d s).2=(v q,(z4d D sel v q d s).2):=if_pos e;rw[h1] at h';have h2:z2e D.kind ((z4d D sel v q d s).1 (D.ato q d).toNat) (v q) (z4d D sel v q d s).2=(v q,(z4d D sel v q d s).2):=if_pos (.inr e);rw[h2] at h';exact absurd h' e
     exact absurd h' e
   exact h3 _ _ he
  obtain⟨hs0,ih⟩:=y2t hsel hv (s:=s) (lv:=lv) q (by omega) h hz;obtain⟨_,h4⟩:=x5f hV hk hsel (show q<D.n by omega) h1 (D.na q) nlr ih he;exact⟨hs0,fun p hp=>(h4 p hp).eq (aA _ _ _)⟩
theorem x2e {v:Nat->ByteArray} {vv:Nat->RK k} (hv:∀ q,q<D.n->Pv k (v q) (vv q)):∀ (q:Nat) {s:ByteArray × Nat} {x:RK k},q<=D.n->Sv k s.1 x->(endC D v q s).2=0->s.2=0/\Sv k (endC D v q s).1 (x+dot q vv (rmOf k D).fin)
 | 0,s,x,_,h,he=>⟨he,by show Sv k s.1 (x+zero);rw[a0];exact h⟩
 | q+1,s,x,hq,h,he=>by
  unfold endC at he ⊢;have hd:dot (q+1) vv (rmOf k D).fin=dot q vv (rmOf k D).fin+vv q*(rmOf k D).fin q:=rfl;rw[hd];by_cases hc:v q=⟨#[]⟩\/D.fin q=⟨#[]⟩
  ·rw[if_pos hc] at he ⊢;have hz:vv q*(rmOf k D).fin q=zero:=by
    rcases hc with h1|h1
    ·rcases hv q (by omega) with ⟨_,h2⟩|h2
     ·rw[h2,zm]
     exact absurd h1 h2.ne
    show vv q*(if D.fin q=⟨#[]⟩ then zero else wval k (D.fin q))=zero
    rw[if_pos h1,m0]
   rw[hz,a0];exact x2e hv q (by omega) h he
  rw[if_neg hc] at he ⊢;have h1:Sv k (v q) (vv q):=by
   rcases hv q (by omega) with ⟨h1,_⟩|h2
   ·exact absurd (.inl h1) hc
   exact h2
  have hf:D.fin q≠⟨#[]⟩:=fun e=>hc (.inr e);have hw:=z4q hk ((hV.fin q (by omega)).resolve_left hf);have hft:(rmOf k D).fin q=wval k (D.fin q):=if_neg hf;have hz:(endC D v q s).2=0:=by
   by_cases e:(endC D v q s).2=0
   ·exact e
   have h1:z0t D.kind (v q) (D.fin q) (endC D v q s).2=(v q,(endC D v q s).2):=if_pos e;rw[h1] at he;have h2:z2e D.kind (endC D v q s).1 (v q) (endC D v q s).2=(v q,(endC D v q s).2):=if_pos (.inr e);rw[h2] at he;exact absurd he e
  obtain⟨hs0,ih⟩:=x2e hv q (by omega) h hz;have htm:(z0t D.kind (v q) (D.fin q) (endC D v q s).2).2=0:=by
   by_cases e:(z0t D.kind (v q) (D.fin q) (endC D v q s).2).2=0
   ·exact e
   have h2:z2e D.kind (endC D v q s).1 (z0t D.kind (v q) (D.fin q) (endC D v q s).2).1 (z0t D.kind (v q) (D.fin q) (endC D v q s).2).2=((z0t D.kind (v q) (D.fin q) (endC D v q s).2).1,(z0t D.kind (v q) (D.fin q) (endC D v q s).2).2):=if_pos (.inr e);rw[h2] at he;exact absurd he e
  refine⟨hs0,?_⟩;rw[hft,<- aA];exact(y2w hk (.inr ih) (y4a hk h1 hw htm).2 he).2
theorem y8d {v:Nat->ByteArray} {vv:Nat->RK k} (h:∀ q,q<D.n->Pv k (v q) (vv q)) {e:Nat} (d:(finC D v e).2=0):e=0/\Sv k (finC D v e).1 (dot D.n vv (rmOf k D).fin):=by
 unfold finC at d ⊢;by_cases c:(endC D v D.n (z1j D.kind,e)).2≠0
 ·rw[if_pos c] at d;exact absurd d c
 rw[if_neg c];have i:Sv k (z1j D.kind) (zero:RK k):=by rw[<- hk];exact Sv.zero
 obtain⟨j,g⟩:=x2e hV hk h D.n (s:=(z1j D.kind,e)) nlr i (by omega);rw[z0] at g;exact⟨j,g⟩
omit hV hk
theorem z7p {j:Int} {a b:ByteArray} {e:Nat} (h:(z2e j a b e).2=0):e=0:=by
 unfold z2e at h;split at h
 ·exact h
 rename_i d;by_cases c:e=0
 ·exact c
 exact absurd (.inr c) d
theorem y1w {j:Int} {a b:ByteArray} {e:Nat} (h:(z0t j a b e).2=0):e=0:=by
 unfold z0t at h;split at h
 ·rename_i c;exact absurd h c
 omega
theorem y6z {j:Int} {S:Nat->Nat->ByteArray} {v:Nat->ByteArray} {q:Nat}:∀ (p:Nat) {s:WS},(rstP j S v q p s).2=0->s.2=0
 | 0,_,h=>h
 | p+1,s,h=>by
  unfold rstP at h;split at h
  ·exact y6z p h
  exact y6z p (y1w (z7p h))
theorem y3j {D:MD} {sel:Int->Int->Bool} {v:Nat->ByteArray} {q:Nat}:∀ (d:Nat) {s:WS},(z4d D sel v q d s).2=0->s.2=0
 | 0,_,h=>h
 | d+1,s,h=>by
  have h':(arcC D sel v q d (z4d D sel v q d s)).2=0:=h;unfold arcC at h';split at h'
  ·exact y3j d (y1w (z7p h'))
  exact y3j d h'
theorem z3p {D:MD} {sel:Int->Int->Bool} {v:Nat->ByteArray}:∀ (q:Nat) {s:WS},(z3q D sel v q s).2=0->s.2=0
 | 0,_,h=>h
 | q+1,s,h=>by
  have h':(rowC D sel v q (z3q D sel v q s)).2=0:=h;unfold rowC at h';split at h'
  ·exact z3p q h'
  exact z3p q (y3j _ h')
theorem v4p (y:Int):∀ a b,sel2 y a b=true↔a=0/\b=y:=fun a b=>by unfold sel2;simp
theorem x4v (x:Int):∀ a b,sel3 x a b=true↔a=x/\b=0:=fun a b=>by unfold sel3;simp
theorem v6e (x y:Int):∀ a b,sel4 x y a b=true↔a=x/\b=y:=fun a b=>by unfold sel4;simp
theorem v3g {j:Int} (hk:k.1=j) {n:Nat} {S:Nat->Nat->ByteArray} {M:Nat->Nat->RK k} {v:Nat->ByteArray} {q:Nat} {xq:RK k} (hq:q<n) (hS:∀ p,p<n->Sv k (S q p) (M q p)) (hv:Pv k (v q) xq):∀ (p:Nat) {s:WS} {lv:Nat->RK k},p<=n->(∀ p,p<n->Pv k (s.1 p) (lv p))->(rstP j S v q p s).2=0 ->
  s.2=0/\∀ r,r<n->Pv k ((rstP j S v q p s).1 r) (if r<p then lv r+xq*M q r else lv r)
 | 0,s,lv,_,h,he=>⟨he,fun r hr=>by rw[if_neg (by omega)];exact h r hr⟩
 | p+1,s,lv,hp,h,he=>by
  have ih:=v3g hk hq hS hv (s:=s) (lv:=lv) p (by omega) h;unfold rstP at he ⊢;have hSp:=hS p (by omega);by_cases hc:v q=⟨#[]⟩\/S q p=z1j j
  ·rw[if_pos hc] at he ⊢;obtain⟨hs0,ih⟩:=ih he;have hz:xq*M q p=zero:=by
    rcases hc with h1|h1
    ·rcases hv with ⟨_,h2⟩|h2
     ·rw[h2,zm]
     exact absurd h1 h2.ne
    rw[<- hk] at h1;rw[hSp.eq_zero.1 h1,m0]
   refine⟨hs0,fun r hr=>(ih r hr).eq ?_⟩;by_cases e:r<p
   ·rw[if_pos e,if_pos (by omega)]
   rw[if_neg e];by_cases e2:r=p
   ·rw[if_pos (by omega),e2,hz,a0]
   rw[if_neg (by omega)]
  rw[if_neg hc] at he ⊢;have h1:Sv k (v q) xq:=by
   rcases hv with ⟨h1,_⟩|h2
   ·exact absurd (.inl h1) hc
   exact h2
  generalize rstP j S v q p s=Z at he ih ⊢;have he':(z2e j (Z.1 p) (z0t j (v q) (S q p) Z.2).1 (z0t j (v q) (S q p) Z.2).2).2=0:=he;have htm:(z0t j (v q) (S q p) Z.2).2=0:=by
   by_cases e:(z0t j (v q) (S q p) Z.2).2=0
   ·exact e
   have h2:z2e j (Z.1 p) (z0t j (v q) (S q p) Z.2).1 (z0t j (v q) (S q p) Z.2).2=((z0t j (v q) (S q p) Z.2).1,(z0t j (v q) (S q p) Z.2).2):=if_pos (.inr e);rw[h2] at he';exact absurd he' e
  have ht:=y4a hk h1 hSp htm;obtain⟨hs0,ih⟩:=ih ht.1;have hip:=ih p (by omega);rw[if_neg (by omega)] at hip;have hpl:=(y2w hk hip ht.2 he').2;refine⟨hs0,fun r hr=>?_⟩;show Pv k (updS Z.1 p _ r) _;unfold updS;by_cases e:r=p
  ·rw[if_pos e,if_pos (by omega),e];exact .inr hpl
  rw[if_neg e];refine(ih r hr).eq ?_;by_cases e2:r<p
  ·rw[if_pos e2,if_pos (by omega)]
  rw[if_neg e2,if_neg (by omega)]
theorem x9n {j:Int} (hk:k.1=j) {n:Nat} {S:Nat->Nat->ByteArray} {M:Nat->Nat->RK k} {v:Nat->ByteArray} {vv:Nat->RK k} (hS:∀ q p,q<n->p<n->Sv k (S q p) (M q p)) (hv:∀ q,q<n->Pv k (v q) (vv q)):∀ (q:Nat) {s:WS} {lv:Nat->RK k},q<=n->(∀ p,p<n->Pv k (s.1 p) (lv p))->(rstQ j S v n q s).2=0 ->
  s.2=0/\∀ r,r<n->Pv k ((rstQ j S v n q s).1 r) (lv r+sum (fun q=>vv q*M q r) q)
 | 0,s,lv,_,h,he=>⟨he,fun r hr=>(h r hr).eq (a0 _).symm⟩
 | q+1,s,lv,hq,h,he=>by
  have he':(rstP j S v q n (rstQ j S v n q s)).2=0:=he;have hz:=y6z n he';obtain⟨hs0,ih⟩:=x9n hk hS hv (s:=s) (lv:=lv) q (by omega) h hz;obtain⟨_,h4⟩:=v3g hk (show q<n by omega) (fun p hp=>hS q p (by omega) hp) (hv q (by omega)) n nlr ih he';exact⟨hs0,fun r hr=>(h4 r hr).eq (by rw[if_pos hr];exact aA _ _ _)⟩
end
open CSR
def StOk (k:KK) (D:MD) (st:StarO):Prop:=match st with
 | none=>∀ q p,q<D.n->p<D.n->sil (rmOf k D) q p=zero
 | some S=>∀ q p,q<D.n->p<D.n->Sv k (S q p) (starM (sil (rmOf k D)) D.n q p)
theorem y6e {R:Type} [CSR R] {M:Nat->Nat->R} {n:Nat} (h:∀ q p,q<n->p<n->M q p=zero) {q p:Nat} (d:q<n) (c:p<n):starM M n q p=eye q p:=by
 rw[starM_left M c,sum_congr (g:=fun _=>zero) (fun r i=>by rw[h q r d i,zm]),sum_zero,a0]
theorem x3k {R:Type} [CSR R] {M:Nat->Nat->R} {n:Nat} (h:∀ q p,q<n->p<n->M q p=zero) (v:Nat->R) {p:Nat} (c:p<n):rst M n v p=v p:=by
 unfold rst;rw[sum_single _ c (fun q g d=>by rw[y6e h g c,eye,if_neg d,m0]),y6e h c c,eye,if_pos rfl,m1]
theorem y7k {k:KK} {D:MD} (l:k.1=D.kind) {st:StarO} (d:StOk k D st) {v:Nat->ByteArray} {vv:Nat->RK k} (i:∀ q,q<D.n->Pv k (v q) (vv q)) {e:Nat} (c:(z5s D.kind D.n st v e).2=0) :
  e=0/\∀ p,p<D.n->Pv k ((z5s D.kind D.n st v e).1 p) (rst (sil (rmOf k D)) D.n vv p):=by
 cases st with
 | none=>exact⟨c,fun p g=>(i p g).eq (x3k d vv g).symm⟩
 | some S =>
  have j:z5s D.kind D.n (some S) v e=if e≠0 then (v,e) else rstQ D.kind S v D.n D.n (z1d,e):=rfl
  rw[j] at c ⊢;by_cases h:e≠0
  ·rw[if_pos h] at c;exact absurd c h
  rw[if_neg h] at c ⊢;obtain⟨_,m⟩:=x9n l d i D.n (s:=(z1d,e)) (lv:=fun _=>zero) nlr (fun p _=>.inl ⟨rfl,rfl⟩) c;exact⟨by omega,fun p g=>(m p g).eq (z0 _)⟩
def Orl (k:KK) (n:Nat) (o:Option VV) (u:Nat->RK k):Prop:=match o with
 | none=>∀ p,p<n->u p=zero
 | some v=>∀ p,p<n->Pv k (v p) (u p)
theorem Orl.getD {k:KK} {n:Nat} {o:Option VV} {u:Nat->RK k} (h:Orl k n o u):∀ p,p<n->Pv k ((o.getD z1d) p) (u p):=fun p c=>by
 cases o with
 | none=>exact .inl ⟨rfl,h p c⟩
 | some v=>exact h p c
def updK {k:KK} (U:Bool->Nat->Nat->RK k) (b:Bool) (j:Nat) (u:Nat->RK k):Bool->Nat->Nat->RK k:=fun b' j'=>if b'=b/\j'=j then u else U b' j'
def Rel (k:KK) (n:Nat) (S:Bool->Nat->Option VV) (U:Bool->Nat->Nat->RK k):Prop:=∀ b j,Orl k n (S b j) (U b j)
theorem Rel.upd {k:KK} {n:Nat} {S:Bool->Nat->Option VV} {U:Bool->Nat->Nat->RK k} (h:Rel k n S U) {b:Bool} {j:Nat} {v:VV} {u:Nat->RK k} (g:∀ p,p<n->Pv k (v p) (u p)):Rel k n (updV S b j v) (updK U b j u):=by
 intro c d;unfold updV updK;by_cases e:c=b/\d=j
 ·rw[if_pos e,if_pos e];exact g
 rw[if_neg e,if_neg e];exact h c d
theorem y4p {k:Int} {n:Nat} {st:StarO} {v:Nat->ByteArray} {e:Nat} (h:(z5s k n st v e).2=0):e=0:=by
 cases st with
 | none=>exact h
 | some S =>
  have c:(if e≠0 then (v,e) else rstQ k S v n n (z1d,e):WS).2=0:=h
  split at c
  ·exact c
  omega
theorem v3k {D:MD} {st:StarO} {na:Nat} {x:Nat->Int} {nb:Nat} {y:Nat->Int} {i j:Nat} (s:RS) (h:(y0f D st na x nb y i j s).2=0):s.2=0:=by
 unfold y0f at h
 split at h
 ·exact h
 rename_i v _;have d:∀ (r:VV) (t:RS),(cell3 D na x nb y i j r t).2=0->t.2=0:=fun r t h=>by
  unfold cell3 at h;split at h
  ·exact z3p D.n (s:=((t.1 true (j+1)).getD z1d,t.2)) h
  exact h
 have g:∀ (r:VV) (t:RS),(cell2 D na x i j r t).2=0->t.2=0:=fun r t h=>by
  unfold cell2 at h;split at h
  ·exact z3p D.n (s:=((t.1 true j).getD z1d,t.2)) h
  exact h
 have c:∀ (r:VV) (t:RS),(cell1 D nb y j r t).2=0->t.2=0:=fun r t h=>by
  unfold cell1 at h;split at h
  ·exact z3p D.n (s:=((t.1 false (j+1)).getD z1d,t.2)) h
  exact h
 exact y4p (c _ _ (g _ _ (d _ _ h)))
theorem y8g {D:MD} {v:Nat->ByteArray}:∀ (q:Nat) {t:ByteArray × Nat},(endC D v q t).2=0->t.2=0
 | 0,_,h=>h
 | q+1,t,h=>by
  unfold endC at h
  split at h
  ·exact y8g q h
  exact y8g q (y1w (z7p h))
theorem y0n {D:MD} {v:Nat->ByteArray} {e:Nat} (h:(finC D v e).2=0):e=0:=by
 unfold finC at h
 split at h
 ·rename_i c;exact absurd h c
 rename_i c;have d:(endC D v D.n (z1j D.kind,e)).2=0:=by omega
 exact y8g D.n d
theorem x4r {D:MD} {st:StarO} {na:Nat} {x:Nat->Int} {nb:Nat} {y:Nat->Int}:∀ {m i:Nat} {row:Nat->Option VV} {e:Nat},(outG D st na x nb y m i row e).2=0->e=0
 | 0,_,_,_,h=>y0n h
 | m+1,i,row,e,h=>by
  unfold outG at h
  split at h
  ·exact y0n h
  omega
section
variable {D:MD} (hV:VM D) {k:KK} (hk:k.1=D.kind)
include hV hk
theorem y4w {b:Bool} {j:Nat} {sel:Int->Int->Bool} {i o:Int} (c:∀ a b,sel a b=true↔a=i/\b=o) {v:VV} {f:Nat->RK k} (g:∀ q,q<D.n->Pv k (v q) (f q)) {s:RS} {U:Bool->Nat->Nat->RK k} (h:Rel k D.n s.1 U) (l:(z2z D b j sel v s).2=0) :
  s.2=0/\Rel k D.n (z2z D b j sel v s).1 (updK U b j (fun p=>U b j p+stp (rmOf k D) i o f p)):=by
 have d:=y2t hV hk c g D.n (s:=((s.1 b j).getD z1d,s.2)) (lv:=U b j) nlr (h b j).getD l;exact⟨d.1,h.upd d.2⟩
variable {na:Nat} {x:Nat->Int} {nb:Nat} {y:Nat->Int} {st:StarO} (hst:StOk k D st)
include hst
theorem v7q {i j:Nat} (hj:j<=nb) {s:RS} {U:Bool->Nat->Nat->RK k} (h:Rel k D.n s.1 U) (z:(y0f D st na x nb y i j s).2=0) :
  s.2=0/\∃ U' f,Rel k D.n (y0f D st na x nb y i j s).1 U'/\Cell (rmOf k D) na x nb y i j f (U false) (U true) (U' false) (U' true)/\∀ p,p<D.n->U' false j p=f p:=by
 unfold y0f at z ⊢;have C:=h false j;cases hs:s.1 false j with
 | none =>
  rw[hs] at z C;have I:∀ (i o:Int) p,stp (rmOf k D) i o (fun _=>(zero:RK k)) p=zero:=fun i o p=>by
   unfold stp;rw[sum_congr (g:=fun _=>zero) (fun q _=>?_),sum_zero];rw[sum_congr (g:=fun _=>zero) (fun d _=>by split;exact zm _;rfl),sum_zero]
  refine⟨z,U,fun _=>zero,h,⟨fun p F=>?_,fun _ p _=>?_,fun _ _ _ _ _ _=>rfl,fun _ p _=>?_,fun _ _ p _=>?_,fun _ _ _ _ _ _ _=>rfl⟩,fun p F=>C p F⟩
  ·unfold rst;rw[sum_congr (g:=fun _=>zero) (fun q hq=>by rw[C q hq,zm]),sum_zero]
  ·rw[I,a0]
  ·rw[I,a0]
  rw[I,a0]
 | some v =>
  rw[hs] at z C;simp only at z ⊢;generalize hr:z5s D.kind D.n st v s.2=r at z ⊢;have H:=y7k hk hst (v:=v) (vv:=U false j) C (e:=s.2);rw[hr] at H;obtain⟨f,hf⟩:=exq (rst (sil (rmOf k D)) D.n (U false j));rw[<- hf] at H;have e3:(cell2 D na x i j r.1 (cell1 D nb y j r.1 (updV s.1 false j r.1,r.2))).2=0/\∀ E:Bool->Nat->Nat->RK k,(∀ q,q<D.n->Pv k (r.1 q) (f q))->Rel k D.n (cell2 D na x i j r.1 (cell1 D nb y j r.1 (updV s.1 false j r.1,r.2))).1 E ->
    Rel k D.n (cell3 D na x nb y i j r.1 (cell2 D na x i j r.1 (cell1 D nb y j r.1 (updV s.1 false j r.1,r.2)))).1 (if i<na/\j<nb then updK E true (j+1) (fun p=>E true (j+1) p+stp (rmOf k D) (x i) (y j) f p) else E):=by
   generalize cell2 D na x i j r.1 (cell1 D nb y j r.1 (updV s.1 false j r.1,r.2))=s2 at z ⊢;unfold cell3 at z ⊢;by_cases c:i<na/\j<nb
   ·rw[if_pos c] at z;have N:s2.2=0:=z3p D.n z;refine⟨N,fun E A B=>?_⟩;rw[if_pos c,if_pos c];exact(y4w hV hk (v6e (x i) (y j)) A B z).2
   rw[if_neg c] at z;exact⟨z,fun E A B=>by rw[if_neg c,if_neg c];exact B⟩
  obtain⟨l,W⟩:=e3;have e2:(cell1 D nb y j r.1 (updV s.1 false j r.1,r.2)).2=0/\∀ U1:Bool->Nat->Nat->RK k,(∀ q,q<D.n->Pv k (r.1 q) (f q))->Rel k D.n (cell1 D nb y j r.1 (updV s.1 false j r.1,r.2)).1 U1 ->
    Rel k D.n (cell2 D na x i j r.1 (cell1 D nb y j r.1 (updV s.1 false j r.1,r.2))).1 (if i<na then updK U1 true j (fun p=>U1 true j p+stp (rmOf k D) (x i) 0 f p) else U1):=by
   generalize cell1 D nb y j r.1 (updV s.1 false j r.1,r.2)=s2 at l ⊢;unfold cell2 at l ⊢;by_cases c:i<na
   ·rw[if_pos c] at l;refine⟨z3p D.n l,fun E A B=>?_⟩;rw[if_pos c,if_pos c];exact(y4w hV hk (x4v (x i)) A B l).2
   rw[if_neg c] at l;exact⟨l,fun E A B=>by rw[if_neg c,if_neg c];exact B⟩
  obtain⟨m,X⟩:=e2;have e1:r.2=0/\∀ U0:Bool->Nat->Nat->RK k,(∀ q,q<D.n->Pv k (r.1 q) (f q))->Rel k D.n (updV s.1 false j r.1) U0 ->
    Rel k D.n (cell1 D nb y j r.1 (updV s.1 false j r.1,r.2)).1 (if j<nb then updK U0 false (j+1) (fun p=>U0 false (j+1) p+stp (rmOf k D) 0 (y j) f p) else U0):=by
   unfold cell1 at m ⊢;by_cases c:j<nb
   ·rw[if_pos c] at m;refine⟨z3p D.n (s:=(((updV s.1 false j r.1) false (j+1)).getD z1d,r.2)) m,fun E A B=>?_⟩;rw[if_pos c,if_pos c];exact(y4w hV hk (v4p (y j)) (s:=(updV s.1 false j r.1,r.2)) A B m).2
   rw[if_neg c] at m;exact⟨m,fun E A B=>by rw[if_neg c,if_neg c];exact B⟩
  obtain⟨L,R⟩:=e1;obtain⟨J,A⟩:=H L;have Y:=h.upd (b:=false) (j:=j) (v:=r.1) (u:=f) A;have r1:=R _ A Y;have T:=X _ A r1;have Z:=W _ A T;refine⟨J,_,f,Z,⟨fun p F=>by rw[hf];rfl,fun c p F=>?_,fun S O h2 K p F=>?_,fun c p F=>?_,fun c P p F=>?_,fun c S O h2 K p F=>?_⟩,fun p F=>?_⟩
  all_goals clear R X W Y r1 T Z m l z H
  ·by_cases O:i<na<;>simp[c,O,updK]
  ·have h6:S≠j:=by omega
   by_cases Q:i<na<;>by_cases G:j<nb<;>simp[Q,G,updK,K,h6]
  ·by_cases G:j<nb<;>simp[c,G,updK]
  ·simp[c,P,updK]
  ·by_cases G:j<nb<;>simp[c,G,updK,h2,K]
  by_cases Q:i<na<;>by_cases G:j<nb<;>simp[Q,G,updK]
theorem x7y {i:Nat} (hi:i<=na) (hx:∀ i,i<na->x i≠0) (hy:∀ j,j<nb->y j≠0) {s:RS} {U:Bool->Nat->Nat->RK k} (h:Rel k D.n s.1 U):∀ j,j<=nb+1->(colG D st na x nb y i j s).2=0 ->
  s.2=0/\∃ U',Rel k D.n (colG D st na x nb y i j s).1 U'/\phi (rmOf k D) na x nb y i 0 (U false) (U true)=(if i=na/\j=nb+1 then dot D.n (U' false nb) (rmOf k D).fin else zero)+phi (rmOf k D) na x nb y i j (U' false) (U' true)
 | 0,_,he=>⟨he,U,h,by rw[if_neg (by omega),z0]⟩
 | j+1,hj,he=>by
  have hst':colG D st na x nb y i (j+1) s=y0f D st na x nb y i j (colG D st na x nb y i j s):=rfl;rw[hst'] at he ⊢;have h0:(colG D st na x nb y i j s).2=0:=by
   by_cases e:(colG D st na x nb y i j s).2=0
   ·exact e
   exfalso
   exact e (v3k _ he)
  obtain⟨hs0,U1,hU1,hphi⟩:=x7y hi hx hy h j (by omega) h0;obtain⟨_,U2,f,hU2,hc,hf⟩:=v7q hV hk hst (show j<=nb by omega) hU1 he;refine⟨hs0,U2,hU2,?_⟩;rw[hphi,if_neg (by omega),z0,Cell.phi hx hy (hV.inn k) hc hi (by omega)]
  congr 1
  by_cases e:i=na/\j=nb
  ·obtain⟨rfl,rfl⟩:=e;rw[if_pos ⟨rfl,rfl⟩];have hd:=x9r (A:=rmOf k D) (na:=i) (nb:=j) f;rw[hd];exact(z1h (n:=D.n) (fun p hp=>hf p hp) (fun _ _=>rfl)).symm
  rw[if_neg (fun h=>e ⟨h.1,by omega⟩)];exact x8g (A:=rmOf k D) f e
theorem v0s (hx:∀ i,i<na->x i≠0) (hy:∀ j,j<nb->y j≠0):∀ (m i:Nat) (row:Nat->Option VV) (e:Nat) (u:Nat->Nat->RK k) (T:RK k),m+i=na+1->(∀ j,Orl k D.n (row j) (u j))->(if i<=na then phi (rmOf k D) na x nb y i 0 u (fun _ _=>zero)=T else T=zero)->(outG D st na x nb y m i row e).2=0->e=0/\Sv k (outG D st na x nb y m i row e).1 T
 | 0,i,row,e,u,T,hm,_,hT,he=>by
  rw[if_neg (by omega)] at hT;have h1:=y8d hV hk (v:=z1d) (vv:=fun _=>zero) (fun _ _=>.inl ⟨rfl,rfl⟩) (e:=e) he;rw[y0s] at h1;rw[hT];exact h1
 | m+1,i,row,e,u,T,hm,hr,hT,he=>by
  rw[if_pos (by omega)] at hT;unfold outG at he ⊢;by_cases h1:e≠0
  ·rw[if_pos h1] at he;exact absurd (y8d hV hk (v:=z1d) (vv:=fun _=>zero) (fun _ _=>.inl ⟨rfl,rfl⟩) he).1 h1
  rw[if_neg h1] at he ⊢;have hU:Rel k D.n (twoR row (fun _=>none)) (fun b j=>if b then fun _=>zero else u j):=by
   intro b j;cases b
   ·exact hr j
   exact fun _ _=>rfl
  generalize hC:colG D st na x nb y i (nb+1) (twoR row (fun _=>none),e)=C at he ⊢;have hcol:=x7y hV hk hst (show i<=na by omega) hx hy (s:=(twoR row (fun _=>none),e)) hU (nb+1) nlr;rw[hC] at hcol;have hphi0:phi (rmOf k D) na x nb y i 0 ((fun b j=>if b then fun _=>zero else u j:Bool->Nat->Nat->RK k) false) ((fun b j=>if b then fun _=>zero else u j:Bool->Nat->Nat->RK k) true)=T:=hT
  by_cases h2:i=na/\(C.1 false nb).isSome=true
  ·rw[if_pos h2] at he ⊢;have hz:C.2=0:=by
    by_cases e0:C.2=0
    ·exact e0
    exfalso
    have h3:(finC D ((C.1 false nb).getD z1d) C.2).2=0:=he;exact e0 (y0n h3)
   obtain⟨_,U',hU',hp⟩:=hcol hz;rw[hphi0,if_pos ⟨h2.1,rfl⟩,h2.1,x3e,a0] at hp;have h3:=y8d hV hk (v:=(C.1 false nb).getD z1d) (vv:=U' false nb) (hU' false nb).getD he;exact⟨by omega,by rw[hp];exact h3.2⟩
  rw[if_neg h2] at he ⊢;have hz:C.2=0:=by
   by_cases e0:C.2=0
   ·exact e0
   exfalso
   exact e0 (x4r he)
  obtain⟨_,U',hU',hp⟩:=hcol hz;rw[hphi0] at hp;refine⟨by omega,?_⟩;refine(v0s hx hy m (i+1) (C.1 true) C.2 (U' true) T (by omega) (fun j=>hU' true j) ?_ he).2;by_cases h3:i=na
  ·rw[if_neg (by omega)];rw[if_pos ⟨h3,rfl⟩,h3,x3e,a0] at hp;have h4:=hU' false nb;have h5:C.1 false nb=none:=by
    cases h6:C.1 false nb with
    | none=>rfl
    | some v=>exact absurd ⟨h3,by rw[h6];rfl⟩ h2
   rw[h5] at h4;rw[hp];have h7:dot D.n (U' false nb) (rmOf k D).fin=dot D.n (fun _=>zero) (rmOf k D).fin:=z1h (fun p hp=>h4 p hp) (fun _ _=>rfl);rw[h7,y0s]
  rw[if_pos (by omega)];rw[if_neg (fun h=>h3 h.1),z0,x8k (show i<na by omega) (next':=fun _ _=>zero) (fun _ _ _ _=>rfl)] at hp;exact hp.symm
theorem u0w (h:∀ i,i<na->x i≠0) (g:∀ j,j<nb->y j≠0) {c:Nat} (m:(wgtG D st c na x nb y).2=0):c=0/\Sv k (wgtG D st c na x nb y).1 (rel (rmOf k D) (ls x na 0) (ls y nb 0)):=by
 refine v0s hV hk hst h g (na+1) 0 _ c (fun j p=>if j=0 then (if p=(rmOf k D).start then (rmOf k D).lead else zero) else zero) _ (by omega) (fun j=>?_) ?_ m
 ·by_cases e:j=0
  ·rw[if_pos e];intro p l;show Pv k (z7y D p) _;unfold z7y;simp only[if_pos e];by_cases d:p=D.start.toNat
   ·rw[if_pos d,if_pos (show p=(rmOf k D).start from d)];exact .inr (z4q hk hV.lead)
   rw[if_neg d,if_neg (show ¬ p=(rmOf k D).start from d)];exact .inl ⟨rfl,rfl⟩
  rw[if_neg e];intro p l;simp only[if_neg e]
 rw[if_pos (by omega)];exact y8z (hV.inn k) (hV.stn k) (fun p _=>by simp) (fun j o _ p _=>by simp only[if_neg (show ¬ j=0 by omega)]) (fun _ _ _ _=>rfl)
end
end
section
open Go.RowKit Go.Deep Go.Maps Go.WideMaps
def Sq (k:Int) (n:Nat) (L:Nat->Nat) (X:Nat->Nat->ByteArray):Prop:=∀ i,i<n->L i=n/\∀ j,j<n->z0p k (X i j)=true
theorem Sq.mat {k:KK} {n:Nat} {L:Nat->Nat} {X:Nat->Nat->ByteArray} (h:Sq k.1 n L X):MatIs 0 n X (fun i j=>wval k (X i j)):=fun i j hi c=>x8s ((h i hi).2 j c)
def StarE (k0:Int) (n:Nat) (L:Nat->Nat) (X:Nat->Nat->ByteArray) (w:World) (r:Ending) (w':World):Prop :=
 Below w.heap.size w w' /\
 (
  (¬ (z4c k0=true/\Sq k0 n L X)/\r=.returned (.tuple #[.slice none 0 0,.int .i64 1])) \/
  (60<n/\z4c k0=true/\Sq k0 n L X/\r=.returned (.tuple #[.slice none 0 0,.int .i64 2])) \/
  (n<=60/\∃ (k:KK) (M:Nat->Nat->RK k),k.1=k0/\Sq k0 n L X/\(M=fun i j=>wval k (X i j))/\MatIs 0 n X M /\
   ((∃ v Y,r=.returned (.tuple #[v,.int .i64 0])/\Mt none w' v n (fun _=>n) Y/\MatIs 0 n Y (CSR.starM M n)) \/
   (r=.returned (.tuple #[.slice none 0 0,.int .i64 2])/\¬ FitM n M))))
abbrev knT:TypeId:=9
abbrev kiT:TypeId:=3
theorem u0r:Keyed prog knT:=string_keyed underlying9
theorem u4t (w:World):(zeroValue kiT).run prog w=.ok (.int .i64 0) w:=by kernel_rfl
def KnInv (k:Int) (D:DataW Unit):Prop:=IsMap D/\∀ s:ByteArray,D.atKey (.string s.data.toList) (.lit (.int .i64 0))=.lit (.int .i64 0)\/z0p k s=true
theorem KnInv.start (k:Int):KnInv k (.map []):=⟨isMap_empty,fun _=>.inl rfl⟩
theorem KnInv.put {k:Int} {D:DataW Unit} (h:KnInv k D) {x:ByteArray} (g:z0p k x=true) (d:DataW Unit):KnInv k (D.put (.string x.data.toList) d):=⟨h.1.put _ _,fun s=>by
 by_cases e:s=x
 ·subst e;exact .inr g
 rcases h.2 s with c|c
 ·left
  rw[atKey_put_other (fun i=>e (by
   have:s.data.toList=x.data.toList:=by simpa using i
   exact ByteArray.ext (Array.toList_inj.1 this)))]
  exact c
 exact .inr c⟩
theorem KnInv.ok {k:Int} {D:DataW Unit} (h:KnInv k D) {x:ByteArray} {c:Int} (g:D.atKey (.string x.data.toList) (.lit (.int .i64 0))=.lit (.int .i64 c)) (i:c≠0):z0p k x=true:=by
 rcases h.2 x with d|d
 ·rw[g] at d;simp at d;exact absurd d i
 exact d
theorem v5z {k0:Int} {n:Nat} {L:Nat->Nat} {X:Nat->Nat->ByteArray} {v:Value} (w:World) (hn:n<=100) (hA:Mt none w v n L X) (hz:∀ i j,(X i j).size<=maxLen) (ht:Tab w) :
  Calls prog 124 #[.int .i64 k0,v] w (StarE k0 n L X w):=by
 obtain⟨a,g4,b,f7,A,C,BB,O,rfl,ha,hc,hm,hb,b0⟩:=hA.open;unfold maxLen at hm;have HZ:=qh hz;clear hz;have HT:=qh ht;clear ht;have c9:=qh hA;clear hA;have HA:=qh ha;clear ha;have HB:=qh hb;clear hb;have HR:=qh b0;clear b0;have ho:=z6s k0 w;cases hk:z4c k0
 ·have h1:oneF k0=⟨#[]⟩:=by unfold oneF;rw[hk];rfl
  rw[h1] at ho;have HO:=qh ho;clear ho
  go_enter func124,ntmps124
  go_wp2_with fail
  refine HO.out.mono ?_;rintro r w1 ⟨rfl,a4⟩;go_wp2;go_ret2;exact⟨a4,.inl ⟨fun h=>by rw[hk] at h;exact absurd h.1 (by simp),rfl⟩⟩
 have f8:k0=1\/k0=2\/k0=3:=by unfold z4c at hk;simp at hk;omega
 obtain⟨k,rfl⟩:∃ k:KK,k.1=k0:=⟨⟨k0,f8⟩,rfl⟩;have HO:=qh ho;clear ho;have h1:((oneF k.1).toList==[])=false:=by
  unfold oneF;rw[hk]
  rcases k.2 with e|e|e<;>rw[e]<;>decide +kernel
 have h3:=@run_makeMap prog;have HK:=qh hk;clear hk
 go_enter func124,ntmps124
 go_wp2_with fail
 refine HO.out.mono ?_;rintro r w1 ⟨rfl,a4⟩;have b4:=qh a4;clear a4
 go_wp2_with fail
 obtain⟨mb,a5⟩:=exq (w1.heap.size);rw[<- a5];have N:(w1.alloc (.map #[] 0)).ownsMap (H:=Unit) prog knT (plainElem prog kiT) mb 0 (.map []):=by rw[a5];exact World.ownsMap_made _ _ _ _
 have a9:Below w.heap.size w (w1.alloc (.map #[] 0)):=b4.out.alloc b4.out.size _;have a7:w.heap.size<=mb:=by rw[a5];exact b4.out.size
 have d1:=qh N;clear N;have d7:=qh a9;clear a9;clear a5
 go_loopw [18] (fun i wr=>∃ (q m:Nat) (D:DataW Unit),q<=n/\m<=q*100/\i=.int .i64 (q:Int)/\(∀ l,l<q->L l=n/\∀ j,j<n->z0p k.1 (X l j)=true) /\
  wr.ownsMap prog knT (plainElem prog kiT) mb m D/\KnInv k.1 D/\Below w.heap.size w wr) (fun i _=>n-(intOf i).toNat)
 case atStart=>exact⟨0,0,_,Nat.zero_le _,nlr,rfl,fun l hl=>by omega,d1.out,KnInv.start _,d7.out⟩
 obtain⟨q,m,D,hq,d0,rfl,s,u,B,a1⟩:=hrel;clear d1 d7;have e5:=qh s;clear s;have J:=qh u;clear u;have I:=qh B;clear B;have g:=qh a1;clear a1;have f9:=qh d0;clear d0;by_cases b5:q<n
 ·have g8:(q:Int)<(n:Int):=by omega
  have g7:(0:Int)<=(q:Int):=by omega
  obtain rfl:=HA.out (by omega);have e9:=(HB.out (by omega)).1;obtain⟨k1,k2,k3,k4,k5,_,k7⟩:=HR.out q b5;have c0:=(g.out.cell (p:=⟨b,f7+q,none⟩) e9).trans k1;clear k1;unfold maxLen at k3;by_cases hL:L q=n
  ·have e6:((L q:Int)==(n:Int))=true:=by simp;omega
   rw[hL] at c0 k4 k7 e6;obtain d2:=k4 (by omega);have f1:=(k5 (by omega)).1;rw[d2] at c0;have HC:=qh k7;clear k7 k4 k5 d2
   go_wp2_with fail
   go_loopw [29] (fun i wr=>∃ (d m':Nat) (D':DataW Unit),d<=n/\m'<=q*100+d/\i=.int .i64 (d:Int)/\(∀ j,j<d->z0p k.1 (X q j)=true) /\
    wr.ownsMap prog knT (plainElem prog kiT) mb m' D'/\KnInv k.1 D'/\Below w.heap.size w wr) (fun i _=>n-(intOf i).toNat)
   case atStart=>exact⟨0,m,D,Nat.zero_le _,by have:=f9.out;omega,rfl,fun j hj=>by omega,J.out,I.out,g.out⟩
   obtain⟨d,m',D',hd,e4,rfl,s,u,B,a1⟩:=hrel;clear J I g c0;have b2:=qh s;clear s;have J:=qh u;clear u;have I:=qh B;clear B;have g:=qh a1;clear a1;have a3:=qh e4;clear e4;by_cases a6:d<n
   ·have h0:(d:Int)<(n:Int):=by omega
    have g6:(0:Int)<=(d:Int):=by omega
    obtain⟨x,hx⟩:=exq (X q d);have c1:=(g.out.cell (p:=⟨BB q,O q+d,none⟩) f1).trans (HC.out d a6);rw[<- hx] at c1;have U:=HZ.out q d;rw[<- hx] at U;have R:keyOf prog knT (.string x)=some (.string x.data.toList):=keyOf_string_mk underlying9 U;obtain⟨c,Z,d4,_⟩:=J.out.lookup_int u0r underlying166 underlying3 (u4t _) R;have g5:=qh d4;clear d4;have b7:=qh R;clear R;have b3:=qh hx;clear hx;have hv:=y8e k.1 x wr (by unfold maxLen at U;exact U) (HT.out.below g.out nlr);clear U;have a8:m' < maxLen:=by have:=a3.out;unfold maxLen;omega
    have d6:=qh a8;clear a8;by_cases hc:c=0
    ·subst hc;cases o:z0p k.1 x
     ·rw[o] at hv;have HV:=qh hv;clear hv
      go_wp2_with fail
      refine HV.out.mono ?_;rintro r w2 ⟨rfl,E⟩;clear Z c1;go_wp2;go_ret2;exact⟨g.out.trans (E.mono g.out.size),.inl ⟨fun h=>by have:=(h.2 q b5).2 d a6;rw[<- b3.out,o] at this;exact absurd this (by simp),rfl⟩⟩
     rw[o] at hv;have HV:=qh hv;clear hv
     go_wp2_with fail
     refine HV.out.mono ?_;rintro r w2 ⟨rfl,E⟩;clear Z c1;have P:=J.out.kept (z0b E none) (by simp);have S:=g.out.trans (E.mono g.out.size);clear E
     go_wp2_with (first
      | (at_mapUpdate;refine wpList_mapUpdate_own _ rfl _ _ _ 166 rfl knT kiT u0r underlying166 _ mb m' _ rfl P d6.out _ _ _ rfl rfl b7.out _ [] (plainElem_int underlying3 (by decide)) ?_)
      | go_in)
     intro w3 K G;have a2:=S.grown G S.size (fun j hj=>by cases hj;exact a7);clear P S G;go_wp2;go_roundw
     case rel =>
      refine⟨d+1,m'+1,_,by omega,by have:=a3.out;omega,by go_num,fun j hj=>?_,K,I.out.put o _,a2⟩
      rcases Nat.lt_succ_iff_lt_or_eq.1 hj with Q|Q
      ·exact b2.out j Q
      subst Q;rw[<- b3.out];exact o
     simp[intOf];omega
    have g9:(c==0)=false:=by simp;exact hc
    have o:z0p k.1 x=true:=I.out.ok g5.out hc;clear hv
    go_wp2_with (first
      | (at_mapUpdate;refine wpList_mapUpdate_own _ rfl _ _ _ 166 rfl knT kiT u0r underlying166 _ mb m' _ rfl J.out d6.out _ _ _ rfl rfl b7.out _ [] (plainElem_int underlying3 (by decide)) ?_)
      | go_in)
    intro w3 K G;have a2:=g.out.grown G g.out.size (fun j hj=>by cases hj;exact a7);clear G Z c1;go_wp2;go_roundw
    case rel =>
     refine⟨d+1,m'+1,_,by omega,by have:=a3.out;omega,by go_num,fun j hj=>?_,K,I.out.put o _,a2⟩
     rcases Nat.lt_succ_iff_lt_or_eq.1 hj with Q|Q
     ·exact b2.out j Q
     subst Q;rw[<- b3.out];exact o
    simp[intOf];omega
   have g3:d=n:=by omega
   subst g3;have f4:¬ ((d:Int)<(d:Int)):=by omega
   go_wp2;go_roundw
   case rel =>
    refine⟨q+1,m',D',by omega,by have:=a3.out;omega,by go_num,fun l hl=>?_,J.out,I.out,g.out⟩
    rcases Nat.lt_succ_iff_lt_or_eq.1 hl with Q|Q
    ·exact e5.out l Q
    subst Q;exact⟨hL,b2.out⟩
   simp[intOf];omega
  have e6:((L q:Int)==(n:Int))=false:=by simp;omega
  go_wp2;go_ret2;exact⟨g.out,.inl ⟨fun h=>hL (h.2 q b5).1,rfl⟩⟩
 have f2:q=n:=by omega
 subst f2;have f4:¬ ((q:Int)<(q:Int)):=by omega
 have d3:Sq k.1 q L X:=e5.out;have W:=qh d3;clear d3;by_cases g2:60<q
 ·have c8:(60:Int)<(q:Int):=by omega
  go_wp2;go_ret2;exact⟨g.out,.inr (.inl ⟨g2,HK.out,W.out,rfl⟩)⟩
 have c8:decide ((60:Int)<(q:Int))=false:=by simp;omega
 obtain⟨M,b6⟩:∃ M:Nat->Nat->RK k,M=fun i j=>wval k (X i j):=⟨_,rfl⟩;have hM:MatIs 0 q X M:=by rw[b6];exact W.out.mat
 have d8:=qh b6;clear b6;obtain⟨sb,T⟩:=exq (wr.heap.size);have e0:SumB (wr.alloc (.cells #[.int .i64 k.1,.int .i64 0] 149)) sb k.1 0:=by rw[T];exact heap_alloc_new wr _
 have b1:Below w.heap.size w (wr.alloc (.cells #[.int .i64 k.1,.int .i64 0] 149)):=g.out.alloc g.out.size _;have c7:w.heap.size<=sb:=by rw[T];exact g.out.size
 have b8:Mt (some sb) (wr.alloc (.cells #[.int .i64 k.1,.int .i64 0] 149)) (.slice a q g4) q (fun _=>q) X :=
  (((c9.out.congr (L':=fun _=>q) (fun i hi=>(W.out i hi).1) (fun _ _ _ _=>rfl)).far (k:=sb) (by rw[T];exact g.out.size)).kept (z0b g.out _)).kept (World.grownBy_alloc _ _ _)
 have d9:TabB w.heap.size (wr.alloc (.cells #[.int .i64 k.1,.int .i64 0] 149)):=(TabB.of HT.out).kept (z:=none) (z0b b1 none) (by simp) nlr;have HM:=qh hM;clear hM;have f0:=qh e0;clear e0;have g1:=qh b1;clear b1;have e3:=qh b8;clear b8 c9;have f3:=qh d9;clear d9
 go_wp2_with fail
 rw[<- T];refine(x6u (F:=FitM q M) (by omega) e3.out HM.out f0.out ⟨.inl rfl,fun _=>rfl⟩ (fun f=>f) f3.out c7).mono ?_;rintro r w2 ⟨v2,e2,Y,rfl,hY,f5,e8,_,e7,b9⟩;have e1:=e7.c1;have E:Below w.heap.size w w2:=g1.out.grown b9 (by simp;have:=g.out.size;omega) (fun j hj=>by cases hj;exact c7);have d5:=qh E;clear E;clear b9 e7 T
 rcases e8.1 with rfl|rfl
 ·go_wp2;go_ret2;exact⟨d5.out,.inr (.inr ⟨by omega,k,M,rfl,W.out,d8.out,HM.out,.inl ⟨_,Y,rfl,hY.any,f5⟩⟩)⟩
 have g0:¬ FitM q M:=fun f=>by have:=e8.2 f;omega
 go_wp2_with fail
 go_quiet (fail)
 go_wp2;go_ret2;exact⟨below_drewN d5.out nq,.inr (.inr ⟨by omega,k,M,rfl,W.out,d8.out,HM.out,.inr ⟨rfl,g0⟩⟩)⟩
end
section
open Go.RowKit Go.Deep
end
end Go.Proofs.YteappjogmnogcaaGreatDoor
