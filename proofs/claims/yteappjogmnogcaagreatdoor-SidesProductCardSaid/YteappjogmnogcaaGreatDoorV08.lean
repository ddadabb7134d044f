/- Parts of a proof: Lub LubV Unr Dp WgM C6. -/
import Derived.Test.YteappjogmnogcaaGreatDoorV00
import Derived.Test.YteappjogmnogcaaGreatDoorV07
import Derived.Test.YteappjogmnogcaaGreatDoorV06
import Derived.Maps.Own
import Derived.OwnWalk
namespace Go.Proofs.YteappjogmnogcaaGreatDoor
set_option maxRecDepth 100000
set_option linter.unusedSimpArgs false
set_option linter.unusedVariables false
set_option linter.unusedSectionVars false
set_option maxHeartbeats 16000000
open Go Tryz
section
namespace CSR
section
variable {R:Type} [CSR R]
def Lub (S:Nat->R) (s:R):Prop:=(∀ n,le (S n) s)/\∀ u,(∀ n,le (S n) u)->le s u
def Mono (S:Nat->R):Prop:=∀ n,le (S n) (S (n+1))
def geo (a:R):Nat->R
 | 0=>zero
 | n+1=>one+a*geo a n
end
end CSR
class CSC (R:Type) [CSR R]:Prop where
 lub_add:∀ (S:Nat->R) (s b:R),CSR.Lub S s->∀ u,(∀ n,CSR.le (S n+b) u)->CSR.le (s+b) u
 lub_mul:∀ (S:Nat->R) (s b:R),CSR.Lub S s->∀ u,(∀ n,CSR.le (S n*b) u)->CSR.le (s*b) u
 lub_star:∀ (a u:R),(∀ n,CSR.le (CSR.geo a n) u)->CSR.le (CSR.star a) u
namespace CSR
section
variable {R:Type} [CSR R]
theorem sum_comm (f:Nat->Nat->R) (m:Nat):∀ n,sum (fun i=>sum (f i) m) n=sum (fun j=>sum (fun i=>f i j) n) m
 | 0=>by
  show zero=_;exact(sum_zero m).symm
 | n+1=>by
  show sum (fun i=>sum (f i) m) n+sum (f n) m=_;rw[sum_comm f m n,<- sum_add];rfl
theorem zero_le (a:R):le zero a:=⟨a,(z0 a).symm⟩
theorem le_mul {a b c d:R} (h:le a b) (k:le c d):le (a*c) (b*d):=le_trans (le_times a k) (by rw[mC a d,mC b d];exact le_times d h)
theorem Mono.to {S:Nat->R} (h:Mono S) {n m:Nat} (c:n<=m):le (S n) (S m):=by
 induction m with
 | zero=>rw[Nat.le_zero.1 c];exact le_refl _
 | succ m ih =>
  by_cases e:n=m+1
  ·rw[e];exact le_refl _
  exact le_trans (ih (by omega)) (h m)
theorem Mono.const (s:R):Mono (fun _=>s):=fun _=>le_refl s
theorem Mono.add {S T:Nat->R} (h:Mono S) (k:Mono T):Mono (fun n=>S n+T n):=fun n=>le_plus (h n) (k n)
theorem Mono.mul {S T:Nat->R} (h:Mono S) (k:Mono T):Mono (fun n=>S n*T n):=fun n=>le_mul (h n) (k n)
theorem Mono.sum {S:Nat->Nat->R} {m:Nat} (h:∀ i,i<m->Mono (S i)):Mono (fun n=>CSR.sum (fun i=>S i n) m):=fun n=>sum_le fun i hi=>h i hi n
theorem Lub.const (s:R):Lub (fun _=>s) s:=⟨fun _=>le_refl s,fun u h=>h 0⟩
theorem Lub.congr {S T:Nat->R} {s:R} (h:Lub S s) (c:∀ n,S n=T n):Lub T s:=by
 have:S=T:=funext c;rw[<- this];exact h
theorem Lub.le_of {S T:Nat->R} {s t:R} (h:Lub S s) (k:Lub T t) (d:∀ n,∃ m,le (S n) (T m)):le s t :=
 h.2 t fun n=>by obtain⟨m,c⟩:=d n;exact le_trans c (k.1 m)
theorem Lub.eq_of {S T:Nat->R} {s t:R} (h:Lub S s) (k:Lub T t) (d:∀ n,∃ m,le (S n) (T m)) (c:∀ n,∃ m,le (T n) (S m)):s=t:=le_anti (h.le_of k d) (k.le_of h c)
theorem Lub.eq {S:Nat->R} {s t:R} (h:Lub S s) (k:Lub S t):s=t:=h.eq_of k (fun n=>⟨n,le_refl _⟩) (fun n=>⟨n,le_refl _⟩)
theorem Lub.of {S T:Nat->R} {s:R} (h:Lub S s) (g:∀ n,∃ m,le (S n) (T m)) (d:∀ n,∃ m,le (T n) (S m)):Lub T s :=
 ⟨fun n=>by obtain⟨m,c⟩:=d n;exact le_trans c (h.1 m),fun u i=>h.2 u fun n=>by obtain⟨m,c⟩:=g n;exact le_trans c (i m)⟩
theorem Lub.shift {S:Nat->R} {s:R} (h:Lub S s) (c:Mono S) (k:Nat):Lub (fun n=>S (n+k)) s :=
 h.of (fun n=>⟨n,c.to (by omega)⟩) (fun n=>⟨n+k,le_refl _⟩)
theorem geo_mono {a b:R} (h:le a b):∀ {n m:Nat},n<=m->le (geo a n) (geo b m)
 | 0,_,_=>zero_le _
 | n+1,m+1,hm=>le_plus (le_refl _) (le_mul h (geo_mono h (by omega)))
 | n+1,0,hm=>absurd hm (by omega)
theorem geo_le_star (a:R):∀ n,le (geo a n) (star a)
 | 0=>zero_le _
 | n+1=>by rw[sE a];exact le_plus (le_refl _) (le_times a (geo_le_star a n))
def way (M:Nat->Nat->R) (p:Nat):Nat->Nat->Nat->R
 | 0,_,_=>zero
 | N+1,i,j=>M i j+sum (fun k=>M i k*way M p N k j) p
theorem way_step (M:Nat->Nat->R) (p:Nat):∀ N i j,le (way M p N i j) (way M p (N+1) i j)
 | 0,_,_=>zero_le _
 | N+1,i,j=>le_plus (le_refl _) (sum_le fun k _=>le_times _ (way_step M p N k j))
theorem way_mono (M:Nat->Nat->R) (p i j:Nat):Mono (fun N=>way M p N i j):=fun N=>way_step M p N i j
theorem way_le (M:Nat->Nat->R) (p:Nat):∀ N i j,le (way M p N i j) (elims M p i j)
 | 0,_,_=>zero_le _
 | N+1,i,j=>by rw[elims_first];exact le_plus (le_refl _) (sum_le fun k _=>le_times _ (way_le M p N k j))
theorem way_cat (M:Nat->Nat->R) (p b j:Nat):∀ a i,le (way M p a i p*way M (p+1) b p j+way M p a i j) (way M (p+1) (a+b) i j)
 | 0,i=>by show le (zero*_+zero) _;rw[zm,a0];exact zero_le _
 | a+1,i=>by
  have ih:=way_cat M p b j a;have e:way M (p+1) (a+1+b) i j=M i j+(sum (fun k=>M i k*way M (p+1) (a+b) k j) p+M i p*way M (p+1) (a+b) p j):=by
   rw[show a+1+b=a+b+1 by omega];rfl
  rw[e];show le ((M i p+sum (fun k=>M i k*way M p a k p) p)*way M (p+1) b p j+(M i j+sum (fun k=>M i k*way M p a k j) p)) _;have e2:(M i p+sum (fun k=>M i k*way M p a k p) p)*way M (p+1) b p j+(M i j+sum (fun k=>M i k*way M p a k j) p)
    = M i j+(sum (fun k=>M i k*(way M p a k p*way M (p+1) b p j+way M p a k j)) p+M i p*way M (p+1) b p j):=by
   rw[dM,sum_mul];have:sum (fun k=>M i k*(way M p a k p*way M (p+1) b p j+way M p a k j)) p=sum (fun k=>M i k*way M p a k p*way M (p+1) b p j) p+sum (fun k=>M i k*way M p a k j) p:=by
    rw[<- sum_add];exact sum_congr fun k _=>by rw[mD,mA]
   rw[this,aL,aA,aC (M i p*way M (p+1) b p j)]
  rw[e2];refine le_plus (le_refl _) (le_plus (sum_le fun k _=>le_times _ (ih k)) (le_times _ ?_));exact(way_mono M (p+1) p j).to (by omega)
theorem way_geo (M:Nat->Nat->R) (p a j:Nat):∀ l,le (geo (way M p a p p) l*way M p a p j) (way M (p+1) (l*a) p j)
 | 0=>by show le (zero*_) _;rw[zm];exact zero_le _
 | l+1=>by
  show le ((one+way M p a p p*geo (way M p a p p) l)*way M p a p j) _;rw[dM,o1,mA,aC];refine le_trans (le_plus (le_times _ (way_geo M p a j l)) (le_refl _)) ?_;have:=way_cat M p (l*a) j a p;rw[show (l+1)*a=a+l*a by rw[Nat.add_mul];omega];exact this
theorem way_star (M:Nat->Nat->R) (p a l i j:Nat):le (way M p a i p*(geo (way M p a p p) l*way M p a p j)+way M p a i j) (way M (p+1) (a+l*a) i j) :=
 le_trans (le_plus (le_times _ (way_geo M p a j l)) (le_refl _)) (way_cat M p (l*a) j a i)
variable [CSC R]
theorem Lub.add {S T:Nat->R} {s t:R} (h:Lub S s) (k:Lub T t) (i:Mono S) (j:Mono T):Lub (fun n=>S n+T n) (s+t):=by
 refine⟨fun n=>le_plus (h.1 n) (k.1 n),fun u g=>?_⟩;have d:∀ n m,le (S n+T m) u:=fun n m=>le_trans (le_plus (i.to (Nat.le_max_left n m)) (j.to (Nat.le_max_right n m))) (g (max n m));have c:∀ m,le (s+T m) u:=fun m=>CSC.lub_add S s (T m) h u fun n=>d n m;rw[aC];exact CSC.lub_add T t s k u fun m=>by rw[aC];exact c m
theorem Lub.mul {S T:Nat->R} {s t:R} (h:Lub S s) (k:Lub T t) (i:Mono S) (j:Mono T):Lub (fun n=>S n*T n) (s*t):=by
 refine⟨fun n=>le_mul (h.1 n) (k.1 n),fun u g=>?_⟩;have d:∀ n m,le (S n*T m) u:=fun n m=>le_trans (le_mul (i.to (Nat.le_max_left n m)) (j.to (Nat.le_max_right n m))) (g (max n m));have c:∀ m,le (s*T m) u:=fun m=>CSC.lub_mul S s (T m) h u fun n=>d n m;rw[mC];exact CSC.lub_mul T t s k u fun m=>by rw[mC];exact c m
theorem Lub.mulL {S:Nat->R} {s:R} (h:Lub S s) (b:R):Lub (fun n=>b*S n) (b*s) :=
 ⟨fun n=>le_times b (h.1 n),fun u c=>by rw[mC];exact CSC.lub_mul S s b h u fun n=>by rw[mC];exact c n⟩
theorem Lub.sum {S:Nat->Nat->R} {s:Nat->R}:∀ {m:Nat},(∀ i,i<m->Lub (S i) (s i))->(∀ i,i<m->Mono (S i))->Lub (fun n=>CSR.sum (fun i=>S i n) m) (CSR.sum s m)
 | 0,_,_=>Lub.const _
 | m+1,h,k=>(Lub.sum (fun i hi=>h i (by omega)) (fun i hi=>k i (by omega))).add (h m (by omega)) (Mono.sum fun i hi=>k i (by omega)) (k m (by omega))
theorem Lub.geo {S:Nat->R} {s:R} (h:Lub S s) (hS:Mono S):∀ l,Lub (fun n=>CSR.geo (S n) l) (CSR.geo s l)
 | 0=>Lub.const _
 | l+1=>(Lub.const one).add (h.mul (Lub.geo h hS l) hS (fun n=>geo_mono (hS n) (Nat.le_refl l))) (Mono.const one) (hS.mul fun n=>geo_mono (hS n) (Nat.le_refl l))
theorem Lub.star {S:Nat->R} {s:R} (h:Lub S s) (c:Mono S):Lub (fun n=>CSR.geo (S n) n) (CSR.star s):=by
 refine⟨fun n=>le_trans (geo_mono (h.1 n) (Nat.le_refl n)) (geo_le_star s n),fun u d=>CSC.lub_star s u fun l=>?_⟩;exact(h.geo c l).2 u fun n=>le_trans (geo_mono (c.to (Nat.le_max_left n l)) (Nat.le_max_right n l)) (d (max n l))
theorem elims_lub (M:Nat->Nat->R):∀ p i j,Lub (fun N=>way M p N i j) (elims M p i j)
 | 0,i,j=>⟨fun N=>way_le M 0 N i j,fun u hu=>by
   have h1:le (way M 0 1 i j) u:=hu 1;rw[show way M 0 1 i j=M i j from a0 _] at h1;exact h1⟩
 | p+1,i,j=>by
  refine⟨fun N=>way_le M (p+1) N i j,fun u hu=>?_⟩;have hm:=way_mono M p;have hl:Lub (fun N=>way M p N i p*(CSR.geo (way M p N p p) N*way M p N p j)+way M p N i j) (elims M p i p*(CSR.star (elims M p p p)*elims M p p j)+elims M p i j) :=
   ((
    elims_lub M p i p).mul (((elims_lub M p p p).star (hm p p)).mul (elims_lub M p p j) (fun n=>geo_mono (hm p p n) (by omega)) (hm p j)) (hm i p) (Mono.mul (fun n=>geo_mono (hm p p n) (by omega)) (hm p j))).add (elims_lub M p i j)
    (Mono.mul (hm i p) (Mono.mul (fun n=>geo_mono (hm p p n) (by omega)) (hm p j))) (hm i j)
  have:=hl.2 u fun N=>le_trans (way_star M p N N i j) (hu _);show le (elims M p i j+elims M p i p*CSR.star (elims M p p p)*elims M p p j) u;rw[aC,mA];exact this
def rnd (M:Nat->Nat->R) (n:Nat) (r:Nat->Nat->R):Nat->Nat->R
 | 0,_=>zero
 | N+1,i=>r N i+sum (fun k=>M i k*rnd M n r N k) n
theorem rnd_mono (M:Nat->Nat->R) (n:Nat) {r:Nat->Nat->R} (hr:∀ i,i<n->Mono (fun N=>r N i)):∀ N i,i<n->le (rnd M n r N i) (rnd M n r (N+1) i)
 | 0,_,_=>zero_le _
 | N+1,i,hi=>le_plus (hr i hi N) (sum_le fun k hk=>le_times _ (rnd_mono M n hr N k hk))
def sol (M:Nat->Nat->R) (n:Nat) (r:Nat->R) (i:Nat):R:=sum (fun j=>starM M n i j*r j) n
theorem sol_eq (M:Nat->Nat->R) (n:Nat) (r:Nat->R) {i:Nat} (hi:i<n):sol M n r i=r i+sum (fun k=>M i k*sol M n r k) n:=by
 have h:∀ j,j<n->starM M n i j*r j=eye i j*r j+sum (fun k=>M i k*(starM M n k j*r j)) n:=fun j c=>by
  rw[starM_left M c,dM,sum_mul];congr 1;exact sum_congr fun k _=>mA ..
 show sum (fun j=>starM M n i j*r j) n=_;rw[sum_congr h,sum_add]
 congr 1
 ·rw[sum_single _ hi (fun j _ c=>by unfold eye;rw[if_neg (fun e=>c e.symm),zm])];unfold eye;rw[if_pos rfl,o1]
 rw[sum_comm];exact sum_congr fun k _=>by unfold sol;rw[mul_sum]
theorem rnd_way (M:Nat->Nat->R) (n:Nat) {r:Nat->Nat->R} (hr:∀ i,i<n->Mono (fun N=>r N i)) (b:Nat):∀ a i,i<n->le (sum (fun j=>(way M n a i j+eye i j)*r b j) n) (rnd M n r (a+b+1) i)
 | 0,i,hi=>by
  rw[sum_single _ hi (fun j _ hj=>by show (zero+eye i j)*_=_;unfold eye;rw[if_neg (fun e=>hj e.symm),a0,zm])];show le ((zero+eye i i)*_) _;unfold eye;rw[if_pos rfl,z0,o1,show 0+b+1=b+1 by omega];exact le_add ..
 | a+1,i,hi=>by
  have ih:=rnd_way M n hr b a;have h:∀ j,j<n->(way M n (a+1) i j+eye i j)*r b j=eye i j*r b j+sum (fun k=>M i k*((way M n a k j+eye k j)*r b j)) n:=fun j hj=>by
   show (M i j+sum (fun k=>M i k*way M n a k j) n+eye i j)*r b j=_;rw[dM,aC];congr 1;have e1:M i j=sum (fun k=>M i k*eye k j) n:=by
    rw[sum_single _ hj (fun k _ hk=>by unfold eye;rw[if_neg hk,m0])];unfold eye;rw[if_pos rfl,m1]
   rw[aC (M i j)]
   conv=>lhs;arg 1;arg 2;rw[e1]
   rw[<- sum_add,sum_mul];exact sum_congr fun k _=>by rw[<- mD,mA]
  rw[sum_congr h,sum_add];rw[sum_single (fun j=>eye i j*r b j) hi (fun j _ hj=>by unfold eye;rw[if_neg (fun e=>hj e.symm),zm])];rw[show eye i i*r b i=r b i by unfold eye;rw[if_pos rfl,o1]];rw[sum_comm,show a+1+b+1=(a+b+1)+1 by omega];refine le_plus ((hr i hi).to (by omega)) (sum_le fun k hk=>?_);rw[<- mul_sum];exact le_times _ (ih k hk)
theorem rnd_lub (M:Nat->Nat->R) (n:Nat) {r:Nat->Nat->R} {s:Nat->R} (d:∀ i,i<n->Mono (fun N=>r N i)) (g:∀ i,i<n->Lub (fun N=>r N i) (s i)) {i:Nat} (hi:i<n):Lub (fun N=>rnd M n r N i) (sol M n s i):=by
 constructor
 ·intro N
  induction N generalizing i with
  | zero=>exact zero_le _
  | succ N ih=>rw[sol_eq M n s hi];exact le_plus ((g i hi).1 N) (sum_le fun k h=>le_times _ (ih h))
 intro u l;have m:Lub (fun N=>sum (fun j=>(way M n N i j+eye i j)*r N j) n) (sum (fun j=>(elims M n i j+eye i j)*s j) n) :=
  Lub.sum (S:=fun j N=>(way M n N i j+eye i j)*r N j) (fun j c=>((elims_lub M n i j).add (Lub.const _) (way_mono M n i j) (Mono.const _)).mul (g j c) ((way_mono M n i j).add (Mono.const _)) (d j c))
   (fun j c=>((way_mono M n i j).add (Mono.const _)).mul (d j c))
 exact m.2 u fun N=>le_trans (rnd_way M n d N N i hi) (l _)
end
end CSR
end
section
theorem arch {d:Rat} (c:0<d) (u:Rat):∃ n:Nat,u<(n:Rat)*d:=by
 have g:u / d<((((u / d).floor+1).toNat:Nat):Rat):=by
  have i:=Rat.lt_floor_add_one (u / d);have h:(((u / d).floor+1:Int):Rat)<=((((u / d).floor+1).toNat:Nat):Rat):=by
   rw[<- Rat.intCast_natCast];exact Rat.intCast_le_intCast.2 (by omega)
  grind
 exact⟨_,(Rat.div_lt_iff c).1 g⟩
theorem climb {P:Nat->Rat} {d:Rat} (c:0<d) (h:∀ n,P n+d<=P (n+1)) (u:Rat):∃ n,u<P n:=by
 have g:∀ n:Nat,P 0+(n:Rat)*d<=P n:=by
  intro n
  induction n with
  | zero=>rw[show ((0:Nat):Rat)=0 from rfl];grind
  | succ n ih =>
   have:=h n;rw[Rat.natCast_add];have e:((1:Nat):Rat)=1:=rfl;rw[e];grind
 obtain⟨n,i⟩:=arch c (u-P 0);exact⟨n,by have:=g n;grind⟩
theorem y8c (a b:V):leV (minV a b) a:=by
 rcases z2d a b with h|h
 ·rw[z3x h];exact z8w _
 rw[z4g h];exact h
theorem x5f (a b:V):leV (minV a b) b:=by rw[x1v];exact y8c b a
theorem v6m {a b x:V} (d:leV x a) (c:leV x b):leV x (minV a b):=by
 rcases z2d a b with h|h
 ·rw[z3x h];exact d
 rw[z4g h];exact c
theorem y7h (a b:V):leV a (maxV a b):=by
 rcases z2d a b with h|h
 ·rw[z3m h];exact h
 rw[z3p h];exact z8w _
theorem x6b (a b:V):leV b (maxV a b):=by rw[x0y];exact y7h b a
theorem v5d {a b x:V} (d:leV a x) (c:leV b x):leV (maxV a b) x:=by
 rcases z2d a b with h|h
 ·rw[z3m h];exact c
 rw[z3p h];exact d
theorem z9t (v:V):leV v .inf:=by cases v<;>trivial
theorem x2r (v:V):leV .low v:=by cases v<;>trivial
theorem y8b {v:V} (h:leV .inf v):v=.inf:=by cases v<;>first|rfl|exact h.elim
theorem v7a {v:V} (h:leV v .low):v=.low:=by cases v<;>first|rfl|exact h.elim
theorem u1z {k:Int} {v:V} (d:k=2\/k=3) (h:okV k v):leV (.fin 0) v:=by
 rcases z2i h (by omega) with rfl|⟨q,rfl,c⟩
 ·exact trivial
 exact c
namespace RK
theorem le_iff {k:KK} {a b:RK k}:CSR.le a b↔if k.1=1 then leV b.1 a.1 else leV a.1 b.1 :=
 ⟨fun ⟨c,d⟩=>by
  have g:=y6z a.2 c.2;have i:b.1=z1p k.1 a.1 c.1:=congrArg Subtype.val d;rw[<- i] at g;exact g,fun h=>by
  obtain⟨c,d,e⟩:=v8r a.2 b.2 h;exact⟨⟨c,d⟩,ext e⟩⟩
theorem le1 {k:KK} (c:k.1=1) {a b:RK k}:CSR.le a b↔leV b.1 a.1:=by rw[le_iff,if_pos c]
theorem le23 {k:KK} (c:k.1=2\/k.1=3) {a b:RK k}:CSR.le a b↔leV a.1 b.1:=by rw[le_iff,if_neg (by omega)]
end RK
theorem okV1 (v:V):okV 1 v:=by
 cases v with
 | inf=>exact⟨by decide,by decide⟩
 | low=>rfl
 | fin q=>exact .inl rfl
theorem v5x {T:Nat->V} {sv o k:V} (p:∀ v,(∀ n,leV v (T n))->leV v sv) (m:∀ n,leV k (z0i 1 (T n) o)):leV k (z0i 1 sv o):=by
 have i:(∀ n,T n=.inf)->sv=.inf:=fun h=>y8b (p .inf fun n=>by rw[h n];exact trivial);have g:∀ v,z0i 1 .inf v=.inf:=fun v=>by rw[times1]
 cases o with
 | inf=>rw[y3u,g];exact z9t _
 | low =>
  by_cases hi:∀ n,T n=.inf
  ·rw[i hi,g];exact z9t _
  have ⟨n,hn⟩:∃ n,T n≠.inf:=Classical.not_forall.1 hi;have d:=m n;have l:z0i 1 (T n) .low=.low:=by rw[times1];cases j:T n<;>first|rfl|exact absurd j hn
  rw[l] at d;rw[v7a d];exact x2r _
 | fin y =>
  cases k with
  | low=>exact x2r _
  | inf =>
   rw[i (fun n=>?_),g];exact trivial;have d:=m n;rw[times1] at d;cases j:T n with
   | inf=>rfl
   | low=>rw[j] at d;exact d.elim
   | fin t=>rw[j] at d;exact d.elim
  | fin c =>
   have d:=p (.fin (c-y)) fun n=>by
    have d:=m n;rw[times1] at d;cases j:T n with
    | inf=>exact trivial
    | low=>rw[j] at d;exact d.elim
    | fin t =>
     rw[j] at d;have l:c<=t+y:=d;show c-y<=t
     grind
   cases sv with
   | inf=>rw[g];exact trivial
   | low=>exact d.elim
   | fin s =>
    have l:c-y<=s:=d;rw[times1];show c<=s+y
    grind
theorem v2k {k:Int} (o:k=2\/k=3) {T:Nat->V} {sv z u:V} (F:∀ n,okV k (T n)) (m:okV k sv) (hb:okV k z) (l:okV k u) (D:∀ v,okV k v->(∀ n,leV (T n) v)->leV sv v) (E:∀ n,leV (mulV (T n) z) u):leV (mulV sv z) u:=by
 have n1:k≠1:=by omega
 rcases z2i hb n1 with rfl|⟨y,rfl,B⟩
 ·by_cases A:∀ n,T n=.fin 0
  ·have d:=D (.fin 0) (okV23' o Rat.le_refl) (fun n=>by rw[A n];exact Rat.le_refl);have i:=z4w d (u1z o m);rw[i,z2h];exact u1z o l
  have ⟨n,hn⟩:∃ n,T n≠.fin 0:=Classical.not_forall.1 A;have d:=E n;have i:mulV (T n) .inf=.inf:=by
   rcases z2i (F n) n1 with h|⟨q,h,_⟩
   ·rw[h];exact z4c
   rw[h];exact z2c (fun e=>hn (by rw[h,e]))
  rw[i] at d;rw[y8b d];exact z9t _
 by_cases g:y=0
 ·subst g;rw[z2a];exact u1z o l
 have p:0<y:=Rat.lt_of_le_of_ne B (fun e=>g e.symm)
 rcases z2i l n1 with rfl|⟨c,rfl,G⟩
 ·exact z9t _
 have j:(c / y)*y=c:=Rat.div_mul_cancel g;have d:=D (.fin (c / y)) (okV23' o (by
  refine Rat.le_of_mul_le_mul_right (c:=y) ?_ p;rw[j,Rat.zero_mul];exact G)) fun n=>by
  have d:=E n
  rcases z2i (F n) n1 with h|⟨t,h,_⟩
  ·rw[h,z1x g] at d;exact d.elim
  rw[h,z1j] at d;rw[h];have i:t*y<=c:=d;show t<=c / y;exact Rat.le_of_mul_le_mul_right (by rw[j];exact i) p
 rcases z2i m n1 with rfl|⟨s,rfl,_⟩
 ·exact d.elim
 rw[z1j];have i:s<=c / y:=d;show s*y<=c;have C:=Rat.mul_le_mul_of_nonneg_right i B;rw[j] at C;exact C
theorem v3e {a u:V} {G:Nat->V} (A:G 1=minV (.fin 0) (z0i 1 a (G 0))) (o:∀ n,G (n+1)=minV (.fin 0) (z0i 1 a (G n))) (h:∀ n,leV u (G n)):leV u (z1z 1 a):=by
 have i:leV (G 1) (.fin 0):=by rw[A];exact y8c _ _
 have gs:∀ n,leV (G (n+1)) (z0i 1 a (G n)):=fun n=>by rw[o];exact x5f _ _
 have p:z1z 1 a=if 0<=cmpV a (.fin 0) then .fin 0 else .low:=rfl
 rw[p]
 split
 ·exact z1d (h 1) i
 rename_i s;have g:leV a (.fin 0):=(z5a _ _).1 (by omega);cases a with
 | inf=>exact g.elim
 | low =>
  have l:leV (G 2) (z0i 1 .low (.fin 0)):=z1d (gs 1) (z9u _ i);rw[times1] at l;exact z1d (h 2) l
 | fin r =>
  have m:r<=0:=g;have j:r≠0:=by intro e;subst e;exact s (by decide +kernel)
  have B:r<0:=Rat.lt_of_le_of_ne m j;have hb:∀ n:Nat,leV (G (n+1)) (.fin ((n:Rat)*r)):=by
   intro n
   induction n with
   | zero=>rw[show ((0:Nat):Rat)*r=0 by rw[show ((0:Nat):Rat)=0 from rfl];grind];exact i
   | succ n ih =>
    have k:=z1d (gs (n+1)) (z9u (.fin r) ih);rw[times1] at k;have e:((n+1:Nat):Rat)*r=r+(n:Rat)*r:=by
     rw[Rat.natCast_add,show ((1:Nat):Rat)=1 from rfl];grind
    rw[e];exact k
  cases u with
  | low=>exact x2r _
  | inf=>have:=z1d (h 1) (hb 0);exact this.elim
  | fin c =>
   exfalso
   obtain⟨n,z⟩:=arch (d:=-r) (by grind) (-c);have C:c<=(n:Rat)*r:=z1d (h (n+1)) (hb n)
   grind
theorem x9y {a u:V} {G:Nat->V} (A:okV 3 a) (m:okV 3 u) (g:∀ n,okV 3 (G n)) (p:∀ n,G (n+1)=maxV (.fin 1) (mulV a (G n))) (o:∀ n,leV (G n) u):leV (z1z 3 a) u:=by
 have i:(3:Int)≠1:=by decide
 have k:∀ n,leV (.fin 1) (G (n+1)):=fun n=>by rw[p];exact y7h _ _
 have gs:∀ n,leV (mulV a (G n)) (G (n+1)):=fun n=>by rw[p];exact x6b _ _
 have D:z1z 3 a=if cmpV a (.fin 1)<=0 then .fin 1 else .inf:=rfl
 rw[D]
 split
 ·exact z1d (k 0) (o 1)
 rename_i E;have o1:(V.fin 1:V)=.inf\/∃ q,(V.fin 1:V)=.fin q/\0<=q:=.inr ⟨1,rfl,by decide +kernel⟩
 rcases z2i A i with rfl|⟨r,rfl,C⟩
 ·have s:=y3r (u:=.inf) (.inl rfl) o1 (z2i (g 1) i) (k 0);rw[z1x (by decide)] at s;exact z1d s (z1d (gs 1) (o 2))
 have B:1<r:=by
  have:¬ leV (.fin r) (.fin 1):=fun h=>E ((z5a _ _).2 h);exact Rat.not_le.1 this
 have hb:∀ n:Nat,leV (.fin (1+(n:Rat)*(r-1))) (G (n+1)):=by
  intro n
  induction n with
  | zero=>rw[show (1:Rat)+((0:Nat):Rat)*(r-1)=1 by rw[show ((0:Nat):Rat)=0 from rfl];grind];exact k 0
  | succ n ih =>
   have j:(0:Rat)<=(n:Rat):=Rat.natCast_nonneg;have l:(0:Rat)<=(n:Rat)*(r-1):=Rat.mul_nonneg j (by grind);have z:=y3r (u:=.fin r) (v:=.fin (1+(n:Rat)*(r-1))) (.inr ⟨r,rfl,C⟩) (.inr ⟨_,rfl,by grind⟩) (z2i (g (n+1)) i) ih;rw[z1j] at z;refine z1d ?_ (z1d z (gs (n+1)));show 1+((n+1:Nat):Rat)*(r-1)<=r*(1+(n:Rat)*(r-1));rw[Rat.natCast_add,show ((1:Nat):Rat)=1 from rfl];have I:0<=(r-1)*((n:Rat)*(r-1)):=Rat.mul_nonneg (by grind) l
   grind
 rcases z2i m i with rfl|⟨c,rfl,_⟩
 ·exact trivial
 exfalso
 obtain⟨n,F⟩:=arch (d:=r-1) (by grind) c;have H:1+(n:Rat)*(r-1)<=c:=z1d (hb n) (o (n+1))
 grind
theorem v0a {a u:V} {G:Nat->V} (F:okV 2 a) (B:okV 2 u) (C:G 0=.fin 0) (l:∀ n,G (n+1)=addV (.fin 1) (mulV a (G n))) (E:∀ n,leV (G n) u):leV (z1z 2 a) u:=by
 have n2:(2:Int)≠1:=by decide
 rcases z2i F n2 with rfl|⟨r,rfl,J⟩
 ·have g:G 1=.fin (1+0):=by rw[l,C,z2a];rfl
  have I:G 2=.inf:=by rw[l,g,z1x (by decide +kernel)];rfl
  have D:=E 2;rw[I] at D;rw[y8b D];exact z9t _
 have z:∃ P:Nat->Rat,P 0=0/\(∀ n,P (n+1)=1+r*P n)/\∀ n,G n=.fin (P n):=by
  refine⟨fun n=>Nat.rec 0 (fun _ p=>1+r*p) n,rfl,fun n=>rfl,fun n=>?_⟩
  induction n with
  | zero=>exact C
  | succ n ih=>rw[l,ih,z1j];rfl
 obtain⟨P,O,s,z⟩:=z;have K:∀ n,0<=P n:=fun n=>by
  induction n with
  | zero=>rw[O];exact Rat.le_refl
  | succ n ih=>rw[s];have:=Rat.mul_nonneg J ih;grind
 have e:z1z 2 (.fin r)=if 0<=cmpQ r 1 then .inf else .fin (1 / (1-r)):=rfl
 rw[e]
 rcases z2i B n2 with rfl|⟨c,rfl,H⟩
 ·exact z9t _
 have i:∀ n,P n<=c:=fun n=>by have:=E n;rw[z] at this;exact this
 split
 ·rename_i j
  exfalso
  have m:1<=r:=by
   rcases z1n r 1 with ⟨g,h⟩|⟨g,h⟩|⟨g,h⟩
   ·rw[h] at j;exact absurd j (by decide)
   ·rw[g];exact Rat.le_refl
   exact Rat.le_of_lt g
  obtain⟨n,L⟩:=climb (P:=P) (d:=1) (by decide +kernel) (fun n=>by
   rw[s];have g:=Rat.mul_le_mul_of_nonneg_right m (K n)
   grind) c
  have:=i n
  grind
 rename_i j;have o:r<1:=by
  rcases z1n r 1 with ⟨g,h⟩|⟨g,h⟩|⟨g,h⟩
  ·exact g
  ·rw[h] at j;exact absurd (by decide) j
  rw[h] at j;exact absurd (by decide) j
 have A:0<1-r:=(Rat.lt_iff_sub_pos r 1).1 o;have N:1-r≠0:=Rat.ne_of_gt A;show 1 / (1-r)<=c;refine Rat.not_lt.1 fun k=>?_;have Q:c*(1-r)<1:=(Rat.lt_div_iff A).1 k;obtain⟨n,L⟩:=climb (P:=P) (d:=1-c*(1-r)) (by grind) (fun n=>by
  rw[s];have g:=Rat.mul_le_mul_of_nonneg_right (i n) (Rat.le_of_lt A)
  grind) c
 have:=i n
 grind
theorem x8v {k:KK} {j:Int} (a:RK k) (h:k.1=j):okV j a.1:=h ▸ a.2
instance csc {k:KK}:CSC (RK k) where
 lub_add S s b h u hu:=by
  rcases k.2 with hk|hk|hk
  ·rw[RK.le1 hk];have e:∀ x y:RK k,(x+y).1=minV x.1 y.1:=fun x y=>(congrArg (fun z=>z1p z x.1 y.1) hk).trans (z8a _ _);rw[e];refine v6m ((RK.le1 hk).1 (h.2 u fun n=>(RK.le1 hk).2 ?_)) ?_
   ·have:=(RK.le1 hk).1 (hu n);rw[e] at this;exact z1d this (y8c _ _)
   ·have:=(RK.le1 hk).1 (hu 0);rw[e] at this;exact z1d this (x5f _ _)
  ·have hk':k.1=2\/k.1=3:=.inl hk;rw[RK.le23 hk'];have e:∀ x y:RK k,(x+y).1=addV x.1 y.1:=fun x y=>(congrArg (fun z=>z1p z x.1 y.1) hk).trans (z6g _ _);rw[e];have hu':=fun n=>(RK.le23 hk').1 (hu n);have o:∀ x:RK k,x.1=.inf\/∃ q,x.1=.fin q/\0<=q:=fun x=>z2i x.2 (by omega)
   rcases o u with h1|⟨c,h1,hc⟩
   ·rw[h1];exact z9t _
   have hb:∃ y,b.1=.fin y/\y<=c:=by
    have h2:=hu' 0;rw[e,h1] at h2
    rcases o b with h3|⟨y,h3,hy⟩
    ·rw[h3] at h2;cases hS:(S 0).1<;>rw[hS] at h2<;>exact h2.elim
    ·rw[h3] at h2
     rcases o (S 0) with h4|⟨t,h4,ht⟩
     ·rw[h4] at h2;exact h2.elim
     ·rw[h4] at h2;have h5:t+y<=c:=h2;exact⟨y,h3,by grind⟩
   obtain⟨y,hy,hyc⟩:=hb;have hs:=(RK.le23 hk').1 (h.2 ⟨.fin (c-y),okV23' hk' (by grind)⟩ fun n=>(RK.le23 hk').2 (by
    have h2:=hu' n;rw[e,h1,hy] at h2
    rcases o (S n) with h4|⟨t,h4,ht⟩
    ·rw[h4] at h2;exact h2.elim
    ·rw[h4] at h2 ⊢;have h5:t+y<=c:=h2;show t<=c-y
     grind))
   rw[h1,hy]
   rcases o s with h4|⟨t,h4,ht⟩
   ·rw[h4] at hs;exact hs.elim
   ·rw[h4] at hs ⊢;have h5:t<=c-y:=hs;show t+y<=c
    grind
  ·have hk':k.1=2\/k.1=3:=.inr hk;rw[RK.le23 hk'];have e:∀ x y:RK k,(x+y).1=maxV x.1 y.1:=fun x y=>(congrArg (fun z=>z1p z x.1 y.1) hk).trans (z7z _ _);rw[e];refine v5d ((RK.le23 hk').1 (h.2 u fun n=>(RK.le23 hk').2 ?_)) ?_
   ·have:=(RK.le23 hk').1 (hu n);rw[e] at this;exact z1d (y7h _ _) this
   ·have:=(RK.le23 hk').1 (hu 0);rw[e] at this;exact z1d (x6b _ _) this
 lub_mul S s b h u hu:=by
  by_cases hk:k.1=1
  ·rw[RK.le1 hk];have e:∀ x y:RK k,(x*y).1=z0i 1 x.1 y.1:=fun x y=>congrArg (fun z=>z0i z x.1 y.1) hk;rw[e];refine v5x (T:=fun n=>(S n).1) (fun v hv=>?_) fun n=>?_
   ·have hv':okV k.1 v:=by rw[hk];exact okV1 v
    exact(RK.le1 hk).1 (h.2 ⟨v,hv'⟩ fun n=>(RK.le1 hk).2 (hv n))
   ·have:=(RK.le1 hk).1 (hu n);rw[e] at this;exact this
  ·have hk':k.1=2\/k.1=3:=by have:=k.2;omega
   rw[RK.le23 hk'];have e:∀ x y:RK k,(x*y).1=mulV x.1 y.1:=fun x y=>times23 hk (z0r x.2 hk) (z0r y.2 hk);rw[e];refine v2k hk' (T:=fun n=>(S n).1) (fun n=>(S n).2) s.2 b.2 u.2 (fun v hv h2=>?_) fun n=>?_
   ·exact(RK.le23 hk').1 (h.2 ⟨v,hv⟩ fun n=>(RK.le23 hk').2 (h2 n))
   ·have:=(RK.le23 hk').1 (hu n);rw[e] at this;exact this
 lub_star a u hu:=by
  rcases k.2 with hk|hk|hk
  ·rw[RK.le1 hk];have hst:(CSR.star a).1=z1z 1 a.1:=congrArg (fun z=>z1z z a.1) hk;have hg:∀ n,(CSR.geo a (n+1)).1=minV (.fin 0) (z0i 1 a.1 (CSR.geo a n).1):=fun n=>by
    have h1:(CSR.geo a (n+1)).1=z1p k.1 (oneV k.1) (z0i k.1 a.1 (CSR.geo a n).1):=rfl;exact h1.trans ((congrArg (fun z=>z1p z (oneV z) (z0i z a.1 (CSR.geo a n).1)) hk).trans (z8a _ _))
   rw[hst];exact v3e (G:=fun n=>(CSR.geo a n).1) (hg 0) hg fun n=>(RK.le1 hk).1 (hu n)
  ·have hk':k.1=2\/k.1=3:=.inl hk;rw[RK.le23 hk'];have hst:(CSR.star a).1=z1z 2 a.1:=congrArg (fun z=>z1z z a.1) hk;have hg:∀ n,(CSR.geo a (n+1)).1=addV (.fin 1) (mulV a.1 (CSR.geo a n).1):=fun n=>by
    have h1:(CSR.geo a (n+1)).1=z1p k.1 (oneV k.1) (z0i k.1 a.1 (CSR.geo a n).1):=rfl;rw[h1,times23 (by omega) (z0r a.2 (by omega)) (z0r (CSR.geo a n).2 (by omega))];exact(congrArg (fun z=>z1p z (oneV z) (mulV a.1 (CSR.geo a n).1)) hk).trans (z6g _ _)
   have h0:(CSR.geo a 0).1=.fin 0:=by
    show zeroV k.1=_;unfold zeroV;rw[if_neg (by omega)]
   rw[hst];have ha:okV 2 a.1:=x8v a hk;have hu2:okV 2 u.1:=x8v u hk;exact v0a (G:=fun n=>(CSR.geo a n).1) ha hu2 h0 hg fun n=>(RK.le23 hk').1 (hu n)
  ·have hk':k.1=2\/k.1=3:=.inr hk;rw[RK.le23 hk'];have hst:(CSR.star a).1=z1z 3 a.1:=congrArg (fun z=>z1z z a.1) hk;have hg:∀ n,(CSR.geo a (n+1)).1=maxV (.fin 1) (mulV a.1 (CSR.geo a n).1):=fun n=>by
    have h1:(CSR.geo a (n+1)).1=z1p k.1 (oneV k.1) (z0i k.1 a.1 (CSR.geo a n).1):=rfl;rw[h1,times23 (by omega) (z0r a.2 (by omega)) (z0r (CSR.geo a n).2 (by omega))];exact(congrArg (fun z=>z1p z (oneV z) (mulV a.1 (CSR.geo a n).1)) hk).trans (z7z _ _)
   rw[hst];have ha:okV 3 a.1:=x8v a hk;have hu2:okV 3 u.1:=x8v u hk;exact x9y (G:=fun n=>(CSR.geo a n).1) ha hu2 (fun n=>x8v (CSR.geo a n) hk) hg fun n=>(RK.le23 hk').1 (hu n)
end
section
structure RM (R:Type) where
 n:Nat
 start:Nat
 lead:R
 fin:Nat->R
 na:Nat->Nat
 ain:Nat->Nat->Int
 aout:Nat->Nat->Int
 aw:Nat->Nat->R
 ato:Nat->Nat->Nat
def red (s:Int) (x:List Int):Option (List Int):=if s=0 then some x else match x with
 | []=>none
 | a::t=>if a=s then some t else none
theorem z2b (x:List Int):red 0 x=some x:=if_pos rfl
theorem u0c {s:Int} (h:s≠0):red s []=none:=by unfold red;rw[if_neg h]
theorem v8v {s:Int} (h:s≠0) (t:List Int):red s (s::t)=some t:=by unfold red;rw[if_neg h];simp
theorem u3y {s a:Int} (h:s≠0) (c:a≠s) (t:List Int):red s (a::t)=none:=by unfold red;rw[if_neg h];simp[c]
theorem x6a {s:Int} {x t:List Int} (h:red s x=some t):(s=0/\t=x)\/(s≠0/\x=s::t):=by
 unfold red at h;by_cases e:s=0
 ·rw[if_pos e] at h;left;exact⟨e,by cases h;rfl⟩
 rw[if_neg e] at h
 right
 cases x with
 | nil=>cases h
 | cons a x' =>
  by_cases c:a=s
  ·simp[c] at h;exact⟨e,by rw[c,h]⟩
  simp[c] at h
theorem y7q {s:Int} {x t:List Int} (h:red s x=some t):t.length<=x.length/\(s≠0->t.length<x.length):=by
 rcases x6a h with ⟨c,rfl⟩|⟨c,rfl⟩
 ·exact⟨nlr,fun h=>absurd c h⟩
 simp
open CSR
section
variable {R:Type} [CSR R]
def arcT (A:RM R) (f:Nat->List Int->List Int->R) (q k:Nat) (x y:List Int):R :=
 match red (A.ain q k) x,red (A.aout q k) y with
 | some x',some y'=>A.aw q k*f (A.ato q k) x' y'
 | _,_=>zero
def endT (A:RM R) (q:Nat) (x y:List Int):R:=if x=[]/\y=[] then A.fin q else zero
def unr (A:RM R):Nat->Nat->List Int->List Int->R
 | 0,_,_,_=>zero
 | N+1,q,x,y=>endT A q x y+sum (fun k=>arcT A (unr A N) q k x y) (A.na q)
theorem v2a {A:RM R} {f g:Nat->List Int->List Int->R} {q k:Nat} (h:∀ x y,le (f (A.ato q k) x y) (g (A.ato q k) x y)) (x y:List Int):le (arcT A f q k x y) (arcT A g q k x y):=by
 unfold arcT
 split
 ·exact le_times _ (h _ _)
 exact le_refl _
theorem z7i (A:RM R):∀ N q x y,le (unr A N q x y) (unr A (N+1) q x y)
 | 0,_,_,_=>zero_le _
 | N+1,q,x,y=>le_plus (le_refl _) (sum_le fun k _=>v2a (fun x y=>z7i A N _ x y) x y)
theorem v6h (A:RM R) (q:Nat) (x y:List Int):Mono (fun N=>unr A N q x y):=fun N=>z7i A N q x y
def Inn (A:RM R):Prop:=∀ q k,q<A.n->k<A.na q->A.ato q k<A.n
def sil (A:RM R) (q p:Nat):R:=sum (fun k=>if A.ain q k=0/\A.aout q k=0/\A.ato q k=p then A.aw q k else zero) (A.na q)
def nsT (A:RM R) (f:Nat->List Int->List Int->R) (q k:Nat) (x y:List Int):R:=if A.ain q k=0/\A.aout q k=0 then zero else arcT A f q k x y
theorem y9k (f:Nat->R) (t:Nat->Nat) (g:Nat->R) (c:Nat->Bool) (n:Nat):∀ m,(∀ k,k<m->t k<n) ->
  sum (fun k=>if c k=true then f k*g (t k) else zero) m=sum (fun p=>sum (fun k=>if c k=true/\t k=p then f k else zero) m*g p) n
 | 0,_=>by
  show zero=sum (fun p=>zero*g p) n;rw[sum_congr (g:=fun _=>zero) (fun p _=>zm _),sum_zero]
 | m+1,h=>by
  show sum _ m+_=sum (fun p=>(sum _ m+_)*g p) n;rw[y9k f t g c n m (fun k hk=>h k (by omega))];rw[sum_congr (f:=fun p=>(sum (fun k=>if c k=true/\t k=p then f k else zero) m+if c m=true/\t m=p then f m else zero)*g p) (g:=fun p=>sum (fun k=>if c k=true/\t k=p then f k else zero) m*g p+(if c m=true/\t m=p then f m else zero)*g p) (fun p _=>dM ..),sum_add]
  congr 1
  show (if c m=true then f m*g (t m) else zero)=_
  by_cases hc:c m=true
  ·rw[if_pos hc,sum_single _ (h m (by omega)) (fun p _ hp=>by rw[if_neg (fun e=>hp e.2.symm),zm]),if_pos ⟨hc,rfl⟩]
  rw[if_neg hc,sum_congr (g:=fun _=>zero) (fun p _=>by rw[if_neg (fun e=>hc e.1),zm]),sum_zero]
theorem x6y {A:RM R} (g:Inn A) (f:Nat->List Int->List Int->R) {q:Nat} (d:q<A.n) (x y:List Int) :
  sum (fun k=>arcT A f q k x y) (A.na q)=sum (fun k=>nsT A f q k x y) (A.na q)+sum (fun p=>sil A q p*f p x y) A.n:=by
 have h:=y9k (fun k=>A.aw q k) (fun k=>A.ato q k) (fun p=>f p x y) (fun k=>decide (A.ain q k=0/\A.aout q k=0)) A.n (A.na q) (fun k i=>g q k d i);have e:sum (fun p=>sil A q p*f p x y) A.n=sum (fun k=>if decide (A.ain q k=0/\A.aout q k=0)=true then A.aw q k*f (A.ato q k) x y else zero) (A.na q):=by
  rw[h];refine sum_congr fun p _=>?_
  congr 1
  exact sum_congr fun k _=>by simp only[decide_eq_true_eq,and_assoc]
 rw[e,<- sum_add];refine sum_congr fun k _=>?_;unfold nsT;by_cases c:A.ain q k=0/\A.aout q k=0
 ·rw[if_pos c,if_pos (by simp[c]),z0];unfold arcT;rw[c.1,c.2,z2b,z2b]
 rw[if_neg c,if_neg (by simpa using c),a0]
def vlF (A:RM R):Nat->Nat->List Int->List Int->R
 | 0,_,_,_=>zero
 | m+1,q,x,y=>sol (sil A) A.n (fun p=>endT A p x y+sum (fun k=>nsT A (vlF A m) p k x y) (A.na p)) q
def vl (A:RM R) (q:Nat) (x y:List Int):R:=vlF A (x.length+y.length+1) q x y
theorem v2z {A:RM R} (hA:Inn A) (x y:List Int):∀ N q,q<A.n->unr A N q x y=rnd (sil A) A.n (fun N p=>endT A p x y+sum (fun k=>nsT A (unr A N) p k x y) (A.na p)) N q
 | 0,_,_=>rfl
 | N+1,q,hq=>by
  show endT A q x y+sum (fun k=>arcT A (unr A N) q k x y) (A.na q)=_;rw[x6y hA (unr A N) hq,<- aA];show _=_+sum (fun k=>sil A q k*rnd (sil A) A.n _ N k) A.n
  congr 1
  exact sum_congr fun p hp=>by rw[v2z hA x y N p hp]
theorem u4i {A:RM R} {f g:Nat->List Int->List Int->R} {q k:Nat} (h:∀ x y,le (f (A.ato q k) x y) (g (A.ato q k) x y)) (x y:List Int):le (nsT A f q k x y) (nsT A g q k x y):=by
 unfold nsT;split
 ·exact le_refl _
 exact v2a h x y
variable [CSC R]
theorem x3n {A:RM R} (hA:Inn A):∀ m x y,x.length+y.length<m->∀ q,q<A.n->Lub (fun N=>unr A N q x y) (vlF A m q x y)
 | 0,_,_,h=>absurd h (by omega)
 | m+1,x,y,h=>fun q hq=>by
  have hns:∀ p k,p<A.n->k<A.na p->Lub (fun N=>nsT A (unr A N) p k x y) (nsT A (vlF A m) p k x y):=by
   intro p k hp hk;unfold nsT;by_cases hc:A.ain p k=0/\A.aout p k=0
   ·simp only[if_pos hc];exact Lub.const _
   simp only[if_neg hc];unfold arcT;cases h1:red (A.ain p k) x with
   | none=>exact Lub.const _
   | some x' =>
    cases h2:red (A.aout p k) y with
    | none=>exact Lub.const _
    | some y' =>
     refine(x3n hA m x' y' ?_ _ (hA p k hp hk)).mulL _;have l1:=y7q h1;have l2:=y7q h2;by_cases e1:A.ain p k=0
     ·have:=l2.2 (fun e2=>hc ⟨e1,e2⟩);omega
     have:=l1.2 e1;omega
  have hmo:∀ p k,Mono (fun N=>nsT A (unr A N) p k x y):=fun p k N=>u4i (fun x y=>z7i A N _ x y) x y;refine(rnd_lub (sil A) A.n (r:=fun N p=>endT A p x y+sum (fun k=>nsT A (unr A N) p k x y) (A.na p)) (fun p hp=>(Mono.const _).add (Mono.sum fun k _=>hmo p k)) (fun p hp=>(Lub.const _).add (Lub.sum (fun k hk=>hns p k hp hk) fun k _=>hmo p k) (Mono.const _) (Mono.sum fun k _=>hmo p k)) hq).congr fun N=>?_;exact(v2z hA x y N q hq).symm
theorem v8t {A:RM R} (d:Inn A) {q:Nat} (c:q<A.n) (x y:List Int):Lub (fun N=>unr A N q x y) (vl A q x y):=x3n d _ x y (by omega) q c
theorem u5c {A:RM R} (d:Inn A) {m q:Nat} (c:q<A.n) {x y:List Int} (h:x.length+y.length<m):vlF A m q x y=vl A q x y:=(x3n d m x y h q c).eq (v8t d c x y)
def dT (A:RM R) (p:Nat) (x y:List Int):R:=endT A p x y+sum (fun k=>nsT A (vl A) p k x y) (A.na p)
theorem x5x {A:RM R} (g:Inn A) {q:Nat} (z:q<A.n) (x y:List Int):vl A q x y=sol (sil A) A.n (fun p=>dT A p x y) q:=by
 show sum (fun j=>starM (sil A) A.n q j*_) A.n=sum (fun j=>starM (sil A) A.n q j*_) A.n;refine sum_congr fun p i=>?_
 congr 1
 show endT A p x y+_=endT A p x y+_
 congr 1
 refine sum_congr fun k o=>?_;unfold nsT;by_cases c:A.ain p k=0/\A.aout p k=0
 ·rw[if_pos c,if_pos c]
 rw[if_neg c,if_neg c];unfold arcT;cases u:red (A.ain p k) x with
 | none=>rfl
 | some x' =>
  cases s:red (A.aout p k) y with
  | none=>rfl
  | some y' =>
   show _*vlF A _ _ x' y'=_*vl A _ x' y';rw[u5c g (g p k i o)];have m:=y7q u;have h:=y7q s;by_cases d:A.ain p k=0
   ·have:=h.2 (fun l=>c ⟨d,l⟩);omega
   have:=m.2 d;omega
def rel (A:RM R) (x y:List Int):R:=A.lead*vl A A.start x y
theorem y5m {A:RM R} (d:Inn A) (c:A.start<A.n) (x y:List Int):Lub (fun N=>A.lead*unr A N A.start x y) (rel A x y):=(v8t d c x y).mulL _
end
end
section
def lsN (x:Nat->Int):Nat->Nat->List Int
 | 0,_=>[]
 | k+1,i=>x i::lsN x k (i+1)
def ls (x:Nat->Int) (n i:Nat):List Int:=lsN x (n-i) i
theorem v9e {x:Nat->Int} {n i:Nat} (h:n<=i):ls x n i=[]:=by unfold ls;rw[show n-i=0 by omega];rfl
theorem v0s {x:Nat->Int} {n i:Nat} (h:i<n):ls x n i=x i::ls x n (i+1):=by
 unfold ls;rw[show n-i=(n-(i+1))+1 by omega];rfl
theorem x4z {x:Nat->Int} {n i:Nat} (h:i<=n):ls x n i=[]↔i=n:=by
 constructor
 ·intro e;by_cases c:i<n
  ·rw[v0s c] at e;cases e
  omega
 intro e;exact v9e (by omega)
theorem v3t {x:Nat->Int} {n i:Nat} (g:∀ i,i<n->x i≠0) {s:Int} (d:s≠0):red s (ls x n i)=if i<n/\s=x i then some (ls x n (i+1)) else none:=by
 by_cases h:i<n
 ·rw[v0s h];by_cases e:s=x i
  ·rw[if_pos ⟨h,e⟩,<- e,v8v d]
  rw[if_neg (fun c=>e c.2),u3y d (fun c=>e c.symm)]
 rw[v9e (by omega),u0c d,if_neg (fun c=>h c.1)]
open CSR
section
variable {R:Type} [CSR R]
theorem ite2 (a b:Prop) [Decidable a] [Decidable b] (v z:R):(if a then if b then v else z else z)=if a/\b then v else z:=by
 by_cases h:a<;>by_cases k:b<;>simp[h,k]
def dot (n:Nat) (v c:Nat->R):R:=sum (fun q=>v q*c q) n
theorem z1m {n:Nat} {v v' c c':Nat->R} (h:∀ q,q<n->v q=v' q) (k:∀ q,q<n->c q=c' q):dot n v c=dot n v' c':=sum_congr fun q d=>by rw[h q d,k q d]
theorem y7u (n:Nat) (v u c:Nat->R):dot n (fun q=>v q+u q) c=dot n v c+dot n u c:=by
 unfold dot;rw[<- sum_add];exact sum_congr fun q _=>dM ..
theorem y8s (n:Nat) (v c d:Nat->R):dot n v (fun q=>c q+d q)=dot n v c+dot n v d:=by
 unfold dot;rw[<- sum_add];exact sum_congr fun q _=>mD ..
theorem y0i (n:Nat) (c:Nat->R):dot n (fun _=>zero) c=zero:=by
 unfold dot;rw[sum_congr (g:=fun _=>zero) (fun q _=>zm _),sum_zero]
theorem x0n (n:Nat) (v:Nat->R):dot n v (fun _=>zero)=zero:=by
 unfold dot;rw[sum_congr (g:=fun _=>zero) (fun q _=>m0 _),sum_zero]
def rst (M:Nat->Nat->R) (n:Nat) (v:Nat->R) (p:Nat):R:=sum (fun q=>v q*starM M n q p) n
theorem x2k (M:Nat->Nat->R) (n:Nat) (v d:Nat->R):dot n v (sol M n d)=dot n (rst M n v) d:=by
 unfold dot sol rst;rw[sum_congr (g:=fun q=>sum (fun p=>v q*(starM M n q p*d p)) n) (fun q _=>mul_sum _ _ _),sum_comm];refine sum_congr fun p _=>?_;rw[sum_mul];exact sum_congr fun q _=>(mA ..).symm
def mmv (A:RM R) (i o:Int) (c:Nat->R) (q:Nat):R:=sum (fun k=>if A.ain q k=i/\A.aout q k=o then A.aw q k*c (A.ato q k) else zero) (A.na q)
def stp (A:RM R) (i o:Int) (f:Nat->R) (p:Nat):R:=sum (fun q=>sum (fun k=>if A.ain q k=i/\A.aout q k=o/\A.ato q k=p then f q*A.aw q k else zero) (A.na q)) A.n
theorem y7s {A:RM R} (j:Inn A) (i o:Int) (f c:Nat->R):dot A.n (stp A i o f) c=dot A.n f (mmv A i o c):=by
 unfold dot stp mmv;rw[sum_congr (g:=fun p=>sum (fun q=>f q*(sum (fun k=>if A.ain q k=i/\A.aout q k=o/\A.ato q k=p then A.aw q k else zero) (A.na q)*c p)) A.n) (fun p _=>?_),sum_comm]
 ·refine sum_congr fun q d=>?_;rw[<- mul_sum]
  congr 1
  have h:=y9k (fun k=>A.aw q k) (fun k=>A.ato q k) c (fun k=>decide (A.ain q k=i/\A.aout q k=o)) A.n (A.na q) (fun k l=>j q k d l);refine Eq.trans ?_ (h.symm.trans (sum_congr fun k _=>by simp only[decide_eq_true_eq]));refine sum_congr fun p _=>?_
  congr 1
  exact sum_congr fun k _=>by simp only[decide_eq_true_eq,and_assoc]
 rw[sum_mul];refine sum_congr fun q _=>?_;rw[<- mA,mul_sum]
 congr 1
 exact sum_congr fun k _=>by
  by_cases e:A.ain q k=i/\A.aout q k=o/\A.ato q k=p
  ·rw[if_pos e,if_pos e]
  rw[if_neg e,if_neg e,m0]
variable [CSC R]
section
variable {A:RM R} {na nb:Nat} {x y:Nat->Int} (hx:∀ i,i<na->x i≠0) (hy:∀ j,j<nb->y j≠0)
def cAt (A:RM R) (na:Nat) (x:Nat->Int) (nb:Nat) (y:Nat->Int) (i j q:Nat):R:=vl A q (ls x na i) (ls y nb j)
def fAt (A:RM R) (na nb i j p:Nat):R:=if i=na/\j=nb then A.fin p else zero
def gAt (b:Bool) (v:R):R:=if b=true then v else zero
include hx hy
theorem y8x {i j p:Nat} (hi:i<=na) (u:j<=nb):dT A p (ls x na i) (ls y nb j) =
  fAt A na nb i j p+(gAt (decide (j<nb)) (mmv A 0 (y j) (cAt A na x nb y i (j+1)) p)+(gAt (decide (i<na)) (mmv A (x i) 0 (cAt A na x nb y (i+1) j) p)+gAt (decide (i<na)&&decide (j<nb)) (mmv A (x i) (y j) (cAt A na x nb y (i+1) (j+1)) p))):=by
 unfold dT;have B:endT A p (ls x na i) (ls y nb j)=fAt A na nb i j p:=by
  unfold endT fAt;by_cases e:i=na/\j=nb
  ·rw[if_pos e,if_pos ⟨(x4z hi).2 e.1,(x4z u).2 e.2⟩]
  rw[if_neg e,if_neg (fun h=>e ⟨(x4z hi).1 h.1,(x4z u).1 h.2⟩)]
 rw[B]
 congr 1
 have o:∀ (b:Bool) (f:Nat->R) (m:Nat),gAt b (sum f m)=sum (fun k=>gAt b (f k)) m:=fun b f m=>by
  unfold gAt;cases b
  ·simp only[Bool.false_eq_true,if_false];rw[sum_zero]
  simp
 unfold mmv;rw[o,o,o,<- sum_add,<- sum_add];refine sum_congr fun k _=>?_;unfold nsT arcT gAt cAt;by_cases c:A.ain p k=0
 ·by_cases o0:A.aout p k=0
  ·rw[if_pos ⟨c,o0⟩];have s:¬ (decide (j<nb)=true/\A.ain p k=0/\A.aout p k=y j):=fun h=>hy j (by simpa using h.1) (by rw[<- h.2.2,o0]);have d:¬ (decide (i<na)=true/\A.ain p k=x i/\A.aout p k=0):=fun h=>hx i (by simpa using h.1) (by rw[<- h.2.1,c]);have l:¬ ((decide (i<na)&&decide (j<nb))=true/\A.ain p k=x i/\A.aout p k=y j):=fun h=>hx i (by have:=h.1;simp at this;exact this.1) (by rw[<- h.2.1,c]);rw[ite2,if_neg s,ite2,if_neg d,ite2,if_neg l,a0,a0]
  rw[if_neg (fun h=>o0 h.2),c,z2b,v3t hy o0];have d:¬ (decide (i<na)=true/\(0:Int)=x i/\A.aout p k=0):=fun h=>o0 h.2.2;have l:¬ ((decide (i<na)&&decide (j<nb))=true/\(0:Int)=x i/\A.aout p k=y j):=fun h=>hx i (by have:=h.1;simp at this;exact this.1) h.2.1.symm;rw[ite2,ite2,if_neg d,ite2,if_neg l,a0,a0];by_cases e:j<nb/\A.aout p k=y j
  ·rw[if_pos e,if_pos ⟨by simpa using e.1,rfl,e.2⟩]
  rw[if_neg e,if_neg (fun h=>e ⟨by simpa using h.1,h.2.2⟩)]
 rw[if_neg (fun h=>c h.1),v3t hx c];have s:¬ (decide (j<nb)=true/\A.ain p k=0/\A.aout p k=y j):=fun h=>c h.2.1;rw[ite2,if_neg s,z0];by_cases o0:A.aout p k=0
 ·rw[o0,z2b];have l:¬ ((decide (i<na)&&decide (j<nb))=true/\A.ain p k=x i/\(0:Int)=y j):=fun h=>hy j (by have:=h.1;simp at this;exact this.2) h.2.2.symm;rw[ite2,ite2,if_neg l,a0];by_cases e:i<na/\A.ain p k=x i
  ·rw[if_pos e,if_pos ⟨by simpa using e.1,e.2,rfl⟩]
  rw[if_neg e,if_neg (fun h=>e ⟨by simpa using h.1,h.2.1⟩)]
 rw[v3t hy o0];have d:¬ (decide (i<na)=true/\A.ain p k=x i/\A.aout p k=0):=fun h=>o0 h.2.2;rw[ite2,if_neg d,ite2,z0];by_cases e:i<na/\A.ain p k=x i
 ·rw[if_pos e];by_cases g:j<nb/\A.aout p k=y j
  ·rw[if_pos g,if_pos ⟨by simp[e.1,g.1],e.2,g.2⟩]
  rw[if_neg g,if_neg (fun h=>g ⟨by have:=h.1;simp at this;exact this.2,h.2.2⟩)]
 have z:¬ ((decide (i<na)&&decide (j<nb))=true/\A.ain p k=x i/\A.aout p k=y j):=fun h=>e ⟨by have:=h.1;simp at this;exact this.1,h.2.1⟩;rw[if_neg e,if_neg z]
omit hx hy
def phi (A:RM R) (na:Nat) (x:Nat->Int) (nb:Nat) (y:Nat->Int) (i j:Nat) (row next:Nat->Nat->R):R :=
 sumFrom (fun j'=>dot A.n (row j') (cAt A na x nb y i j')) j (nb+1)+gAt (decide (i<na)) (sum (fun j'=>dot A.n (next j') (cAt A na x nb y (i+1) j')) (nb+1))
theorem x2m {f g:Nat->R} {n m:Nat} {d:R} (c:m<n) (h:g m=f m+d) (j:∀ i,i<n->i≠m->g i=f i):sum g n=sum f n+d:=by
 rw[sum_pick g c,sum_pick f c,h,sum_congr (f:=fun i=>if i=m then zero else g i) (g:=fun i=>if i=m then zero else f i) (fun i hi=>by
  by_cases e:i=m
  ·rw[if_pos e,if_pos e]
  rw[if_neg e,if_neg e,j i hi e]),aA,aA,aC d]
structure Cell (A:RM R) (na:Nat) (x:Nat->Int) (nb:Nat) (y:Nat->Int) (i j:Nat) (f:Nat->R) (row next row' next':Nat->Nat->R):Prop where
 hf:∀ p,p<A.n->f p=rst (sil A) A.n (row j) p
 r1:j<nb->∀ p,p<A.n->row' (j+1) p=row (j+1) p+stp A 0 (y j) f p
 ro:∀ j',j<j'->j'<=nb->j'≠j+1->∀ p,p<A.n->row' j' p=row j' p
 n0:i<na->∀ p,p<A.n->next' j p=next j p+stp A (x i) 0 f p
 n1:i<na->j<nb->∀ p,p<A.n->next' (j+1) p=next (j+1) p+stp A (x i) (y j) f p
 no:i<na->∀ j',j'<=nb->j'≠j->j'≠j+1->∀ p,p<A.n->next' j' p=next j' p
include hx hy
theorem Cell.phi {A:RM R} (B:Inn A) {i j:Nat} {f:Nat->R} {row next m next':Nat->Nat->R} (h:Cell A na x nb y i j f row next m next') (hi:i<=na) (I:j<=nb) :
  phi A na x nb y i j row next=dot A.n f (fAt A na nb i j)+phi A na x nb y i (j+1) m next':=by
 unfold Go.Proofs.YteappjogmnogcaaGreatDoor.phi;rw[sumFrom_step _ (show j<nb+1 by omega)];have F:dot A.n (row j) (cAt A na x nb y i j)=dot A.n f (fAt A na nb i j)+(gAt (decide (j<nb)) (dot A.n (stp A 0 (y j) f) (cAt A na x nb y i (j+1)))+(gAt (decide (i<na)) (dot A.n (stp A (x i) 0 f) (cAt A na x nb y (i+1) j))+gAt (decide (i<na)&&decide (j<nb)) (dot A.n (stp A (x i) (y j) f) (cAt A na x nb y (i+1) (j+1))))):=by
  rw[z1m (v':=row j) (c:=cAt A na x nb y i j) (c':=sol (sil A) A.n (fun p=>dT A p (ls x na i) (ls y nb j))) (fun _ _=>rfl) (fun q G=>x5x B G _ _),x2k];rw[z1m (v':=f) (c':=fun p=>fAt A na nb i j p+(gAt (decide (j<nb)) (mmv A 0 (y j) (cAt A na x nb y i (j+1)) p)+(gAt (decide (i<na)) (mmv A (x i) 0 (cAt A na x nb y (i+1) j) p)+gAt (decide (i<na)&&decide (j<nb)) (mmv A (x i) (y j) (cAt A na x nb y (i+1) (j+1)) p)))) (fun p H=>(h.hf p H).symm) (fun p _=>y8x hx hy hi I)];rw[y8s,y8s,y8s];have C:∀ (b:Bool) (c:Nat->R),dot A.n f (fun p=>gAt b (c p))=gAt b (dot A.n f c):=fun b c=>by
   unfold gAt;cases b
   ·simp only[Bool.false_eq_true,if_false];exact x0n _ _
   simp
  rw[C,C,C,y7s B,y7s B,y7s B]
 have E:sumFrom (fun g=>dot A.n (m g) (cAt A na x nb y i g)) (j+1) (nb+1)=sumFrom (fun g=>dot A.n (row g) (cAt A na x nb y i g)) (j+1) (nb+1)+gAt (decide (j<nb)) (dot A.n (stp A 0 (y j) f) (cAt A na x nb y i (j+1))):=by
  unfold sumFrom;by_cases k:j<nb
  ·unfold gAt;rw[if_pos (by simpa using k)];refine x2m (show j+1<nb+1 by omega) ?_ (fun z u o=>?_)
   ·rw[if_neg (by omega),if_neg (by omega),<- y7u];exact z1m (h.r1 k) (fun _ _=>rfl)
   by_cases e:z<j+1
   ·rw[if_pos e,if_pos e]
   rw[if_neg e,if_neg e];exact z1m (h.ro z (by omega) (by omega) o) (fun _ _=>rfl)
  unfold gAt;rw[if_neg (by simpa using k),a0];exact sum_congr fun z u=>by rw[if_pos (by omega),if_pos (by omega)]
 have J:gAt (decide (i<na)) (sum (fun g=>dot A.n (next' g) (cAt A na x nb y (i+1) g)) (nb+1))=gAt (decide (i<na)) (sum (fun g=>dot A.n (next g) (cAt A na x nb y (i+1) g)) (nb+1))+(gAt (decide (i<na)) (dot A.n (stp A (x i) 0 f) (cAt A na x nb y (i+1) j))+gAt (decide (i<na)&&decide (j<nb)) (dot A.n (stp A (x i) (y j) f) (cAt A na x nb y (i+1) (j+1)))):=by
  by_cases l:i<na
  ·have D:sum (fun g=>dot A.n (next' g) (cAt A na x nb y (i+1) g)) (nb+1)=sum (fun g=>if g=j+1 then dot A.n (next g) (cAt A na x nb y (i+1) g) else dot A.n (next' g) (cAt A na x nb y (i+1) g)) (nb+1)+gAt (decide (j<nb)) (dot A.n (stp A (x i) (y j) f) (cAt A na x nb y (i+1) (j+1))):=by
    by_cases k:j<nb
    ·unfold gAt;rw[if_pos (by simpa using k)];refine x2m (show j+1<nb+1 by omega) ?_ (fun z u o=>by rw[if_neg o]);rw[if_pos rfl,<- y7u];exact z1m (h.n1 l k) (fun _ _=>rfl)
    unfold gAt;rw[if_neg (by simpa using k),a0];exact sum_congr fun z u=>by rw[if_neg (by omega)]
   have K:sum (fun g=>if g=j+1 then dot A.n (next g) (cAt A na x nb y (i+1) g) else dot A.n (next' g) (cAt A na x nb y (i+1) g)) (nb+1)=sum (fun g=>dot A.n (next g) (cAt A na x nb y (i+1) g)) (nb+1)+dot A.n (stp A (x i) 0 f) (cAt A na x nb y (i+1) j):=by
    refine x2m (show j<nb+1 by omega) ?_ (fun z u o=>?_)
    ·rw[if_neg (by omega),<- y7u];exact z1m (h.n0 l) (fun _ _=>rfl)
    by_cases e:z=j+1
    ·rw[if_pos e]
    rw[if_neg e];exact z1m (h.no l z (by omega) o e) (fun _ _=>rfl)
   unfold gAt at D ⊢;rw[decide_eq_true l,Bool.true_and,if_pos rfl,if_pos rfl,if_pos rfl,D,K,aA]
  unfold gAt;rw[decide_eq_false l];simp[a0]
 rw[F,E,J];generalize dot A.n f (fAt A na nb i j)=a;generalize gAt (decide (j<nb)) (dot A.n (stp A 0 (y j) f) (cAt A na x nb y i (j+1)))=b;generalize gAt (decide (i<na)) (dot A.n (stp A (x i) 0 f) (cAt A na x nb y (i+1) j))=c;generalize gAt (decide (i<na)&&decide (j<nb)) (dot A.n (stp A (x i) (y j) f) (cAt A na x nb y (i+1) (j+1)))=d;generalize sumFrom (fun g=>dot A.n (row g) (cAt A na x nb y i g)) (j+1) (nb+1)=s;generalize gAt (decide (i<na)) (sum (fun g=>dot A.n (next g) (cAt A na x nb y (i+1) g)) (nb+1))=t;rw[aA,aA,aA]
 congr 1
 generalize c+d=e;rw[aL e s t,aL b s,aA s b]
 congr 1
 rw[aC e t]
omit hx hy
theorem x1h {A:RM R} (B:Inn A) (k:A.start<A.n) {row next:Nat->Nat->R} (m:∀ p,p<A.n->row 0 p=if p=A.start then A.lead else zero) (o:∀ j,0<j->j<=nb->∀ p,p<A.n->row j p=zero) (hn:∀ j,j<=nb->∀ p,p<A.n->next j p=zero) :
  phi A na x nb y 0 0 row next=rel A (ls x na 0) (ls y nb 0):=by
 unfold phi;have i:∀ (v c:Nat->R),(∀ p,p<A.n->v p=zero)->dot A.n v c=zero:=fun v c h=>by rw[z1m (v':=fun _=>zero) (c':=c) h (fun _ _=>rfl),y0i]
 have s:sum (fun l=>dot A.n (next l) (cAt A na x nb y (0+1) l)) (nb+1)=zero:=by
  rw[sum_congr (g:=fun _=>zero) (fun j u=>i _ _ (hn j (by omega))),sum_zero]
 rw[s,show gAt (decide (0<na)) (zero:R)=zero by unfold gAt;split<;>rfl,a0,sumFrom_zero,sum_single _ (show 0<nb+1 by omega) (fun j u d=>i _ _ (o j (by omega) (by omega)))]
 unfold dot rel;rw[sum_single _ k (fun p z d=>by rw[m p z,if_neg d,zm]),m _ k,if_pos rfl];rfl
theorem v2t {A:RM R} {i:Nat} {row next:Nat->Nat->R} (hi:i<na) {next':Nat->Nat->R} (hn:∀ j,j<=nb->∀ p,p<A.n->next' j p=zero) :
  phi A na x nb y i (nb+1) row next=phi A na x nb y (i+1) 0 next next':=by
 unfold phi;rw[sumFrom_end,z0,sumFrom_zero];have d:sum (fun c=>dot A.n (next' c) (cAt A na x nb y (i+1+1) c)) (nb+1)=zero:=by
  rw[sum_congr (g:=fun _=>zero) (fun j h=>by rw[z1m (v':=fun _=>zero) (c':=_) (hn j (by omega)) (fun _ _=>rfl),y0i]),sum_zero]
 rw[d,show gAt (decide (i+1<na)) (zero:R)=zero by unfold gAt;split<;>rfl,a0]
 unfold gAt;rw[if_pos (by simpa using hi)]
theorem x3w {A:RM R} {row next:Nat->Nat->R}:phi A na x nb y na (nb+1) row next=zero:=by
 unfold phi gAt;rw[sumFrom_end,z0];simp
theorem v3d {A:RM R} {i j:Nat} (f:Nat->R) (h:¬ (i=na/\j=nb)):dot A.n f (fAt A na nb i j)=zero:=by
 rw[z1m (v':=f) (c':=fun _=>zero) (fun _ _=>rfl) (fun p _=>by unfold fAt;rw[if_neg h]),x0n]
theorem v1d {A:RM R} (f:Nat->R):dot A.n f (fAt A na nb na nb)=dot A.n f A.fin:=z1m (fun _ _=>rfl) (fun p _=>by unfold fAt;rw[if_pos ⟨rfl,rfl⟩])
end
end
end
section
abbrev StarO:=Option (Nat->Nat->ByteArray)
def rstP (k:Int) (S:Nat->Nat->ByteArray) (v:Nat->ByteArray) (q:Nat):Nat->WS->WS
 | 0,s=>s
 | p+1,s=>if v q=⟨#[]⟩\/S q p=z0z k then rstP k S v q p s
  else (updS (rstP k S v q p s).1 p (z2e k ((rstP k S v q p s).1 p) (z0s k (v q) (S q p) (rstP k S v q p s).2).1 (z0s k (v q) (S q p) (rstP k S v q p s).2).2).1,(z2e k ((rstP k S v q p s).1 p) (z0s k (v q) (S q p) (rstP k S v q p s).2).1 (z0s k (v q) (S q p) (rstP k S v q p s).2).2).2)
def rstQ (k:Int) (S:Nat->Nat->ByteArray) (v:Nat->ByteArray) (n:Nat):Nat->WS->WS
 | 0,s=>s
 | q+1,s=>rstP k S v q n (rstQ k S v n q s)
def z3w (k:Int) (n:Nat) (st:StarO) (v:Nat->ByteArray) (e:Nat):WS:=match st with
 | none=>(v,e)
 | some S=>if e≠0 then (v,e) else rstQ k S v n n (z1f,e)
def y0u (D:MD) (st:StarO) (na:Nat) (x:Nat->Int) (nb:Nat) (y:Nat->Int) (i j:Nat) (s:RS):RS :=
 match s.1 false j with
 | none=>s
 | some v=>cell3 D na x nb y i j (z3w D.kind D.n st v s.2).1 (cell2 D na x i j (z3w D.kind D.n st v s.2).1 (cell1 D nb y j (z3w D.kind D.n st v s.2).1 (updV s.1 false j (z3w D.kind D.n st v s.2).1,(z3w D.kind D.n st v s.2).2)))
def colG (D:MD) (st:StarO) (na:Nat) (x:Nat->Int) (nb:Nat) (y:Nat->Int) (i:Nat):Nat->RS->RS
 | 0,s=>s
 | j+1,s=>y0u D st na x nb y i j (colG D st na x nb y i j s)
def outG (D:MD) (st:StarO) (na:Nat) (x:Nat->Int) (nb:Nat) (y:Nat->Int):Nat->Nat->(Nat->Option VV)->Nat->ByteArray × Nat
 | 0,_,_,e=>finC D z1f e
 | k+1,i,row,e =>
  if e≠0 then finC D z1f e
  else if i=na/\((colG D st na x nb y i (nb+1) (twoR row (fun _=>none),e)).1 false nb).isSome=true then
   finC D (((colG D st na x nb y i (nb+1) (twoR row (fun _=>none),e)).1 false nb).getD z1f) (colG D st na x nb y i (nb+1) (twoR row (fun _=>none),e)).2
  else outG D st na x nb y k (i+1) ((colG D st na x nb y i (nb+1) (twoR row (fun _=>none),e)).1 true) (colG D st na x nb y i (nb+1) (twoR row (fun _=>none),e)).2
def wgtG (D:MD) (st:StarO) (e0:Nat) (na:Nat) (x:Nat->Int) (nb:Nat) (y:Nat->Int):ByteArray × Nat:=outG D st na x nb y (na+1) 0 (fun j=>if j=0 then some (z6k D) else none) e0
def Sv (k:KK) (s:ByteArray) (x:RK k):Prop:=s=vtxt x.1/\fitV x.1
def Pv (k:KK) (s:ByteArray) (x:RK k):Prop:=(s=⟨#[]⟩/\x=CSR.zero)\/Sv k s x
section
variable {k:KK}
theorem Sv.prs {s:ByteArray} {x:RK k} (h:Sv k s x):vprs k.1 s=some x.1:=by rw[h.1];exact x5v h.2 x.2
theorem Sv.ne {s:ByteArray} {x:RK k} (h:Sv k s x):s≠⟨#[]⟩:=fun e=>by
 have d:=h.prs;rw[e] at d;have c:=(y2r (z3e.1 d).1).1;have i:(vtxt x.1).size=0:=by rw[<- c];rfl
 have g:=y8n h.2;rw[<- c] at g;exact absurd g (by rw[show rdV ⟨#[]⟩=none by decide +kernel];simp)
theorem Sv.inj {s:ByteArray} {x y:RK k} (h:Sv k s x) (d:Sv k s y):x=y:=by
 have c:=h.prs;rw[d.prs] at c;exact RK.ext (Option.some.inj c).symm
theorem Sv.text {s t:ByteArray} {x:RK k} (h:Sv k s x) (c:Sv k t x):s=t:=by rw[h.1,c.1]
theorem Sv.zero:Sv k (z0z k.1) (CSR.zero:RK k):=(Is.zero k 0).2 rfl
theorem Sv.one:Sv k (oneF k.1) (CSR.one:RK k):=(Is.one k 0).2 rfl
theorem Sv.eq_zero {s:ByteArray} {x:RK k} (h:Sv k s x):s=z0z k.1↔x=CSR.zero:=by
 constructor
 ·intro e;rw[e] at h;exact h.inj Sv.zero
 intro e;rw[e] at h;exact h.text Sv.zero
theorem Sv.val {s:ByteArray} {x:RK k} (h:Sv k s x):wval k s=x:=by
 have d:=h.prs;unfold wval
 split
 ·rename_i v c;rw[d] at c;cases c;rfl
 rename_i c;rw[d] at c;cases c
theorem u1c {s:ByteArray} (h:z0q k.1 s=true):Sv k s (wval k s):=(y3w h).2 rfl
theorem z4v {j:Int} (c:k.1=j) {s:ByteArray} (h:z0m j s=true):Sv k s (wval k s):=by subst c;exact u1c (y0j h)
theorem v3i {v:V} (h:(limV v).2=0):limV v=(vtxt v,0)/\fitV v:=by
 rcases z9b v with ⟨d,c⟩|⟨_,c⟩
 ·exact⟨c,d⟩
 rw[c] at h;cases h
theorem y7t {a b:ByteArray} {x y:RK k} (c:Sv k a x) (hb:Sv k b y) (h:(z1k k.1 a b).2=0):Sv k (z1k k.1 a b).1 (x+y):=by
 have i:z1k k.1 a b=limV (x+y).1:=by unfold z1k;rw[c.prs,hb.prs];rfl
 rw[i] at h ⊢;obtain⟨g,d⟩:=v3i h;rw[g];exact⟨rfl,d⟩
theorem z7s {a b:ByteArray} {x y:RK k} (c:Sv k a x) (hb:Sv k b y) (h:(z0g k.1 a b).2=0):Sv k (z0g k.1 a b).1 (x*y):=by
 have i:z0g k.1 a b=limV (x*y).1:=by unfold z0g;rw[c.prs,hb.prs];rfl
 rw[i] at h ⊢;obtain⟨g,d⟩:=v3i h;rw[g];exact⟨rfl,d⟩
theorem y2v {j:Int} (m:k.1=j) {a b:ByteArray} {x y:RK k} {e:Nat} (i:Pv k a x) (hb:Sv k b y) (h:(z2e j a b e).2=0):e=0/\Sv k (z2e j a b e).1 (x+y):=by
 subst m;unfold z2e at h ⊢;by_cases d:a=⟨#[]⟩\/e≠0
 ·rw[if_pos d] at h ⊢;have l:e=0:=h;have g:a=⟨#[]⟩:=d.resolve_right (fun h=>h l)
  rcases i with ⟨_,rfl⟩|c
  ·exact⟨l,by rw[CSR.z0];exact hb⟩
  exact absurd g c.ne
 rw[if_neg d] at h ⊢;refine⟨by omega,?_⟩
 rcases i with ⟨c,_⟩|c
 ·exact absurd (.inl c) d
 exact y7t c hb h
theorem y3g {j:Int} (g:k.1=j) {a b:ByteArray} {x y:RK k} {e:Nat} (d:Sv k a x) (hb:Sv k b y) (h:(z0s j a b e).2=0):e=0/\Sv k (z0s j a b e).1 (x*y):=by
 subst g;unfold z0s at h ⊢;by_cases c:e≠0
 ·rw[if_pos c] at h;exact absurd h c
 rw[if_neg c] at h ⊢;exact⟨by omega,z7s d hb h⟩
theorem Pv.zero {s:ByteArray}:Pv k ⟨#[]⟩ (CSR.zero:RK k):=.inl ⟨rfl,rfl⟩
theorem Pv.eq {s:ByteArray} {x y:RK k} (h:Pv k s x) (e:x=y):Pv k s y:=e ▸ h
end
def rmOf (k:KK) (D:MD):RM (RK k) :=
 { n:=D.n,start:=D.start.toNat,lead:=wval k D.lead,fin:=fun q=>if D.fin q=⟨#[]⟩ then CSR.zero else wval k (D.fin q),na:=D.na,ain:=D.ain,aout:=D.aout,aw:=fun q d=>wval k (D.aw q d),ato:=fun q d=>(D.ato q d).toNat }
theorem VM.inn {D:MD} (h:VM D) (k:KK):Inn (rmOf k D):=fun q d g i=>by
 have c:=h.arc q d g i;have:=c.t0;have:=c.t1;show (D.ato q d).toNat<D.n;omega
theorem VM.stn {D:MD} (h:VM D) (k:KK):(rmOf k D).start<(rmOf k D).n:=by
 have:=h.s0;have:=h.s1;show D.start.toNat<D.n;omega
theorem VM.kk {D:MD} (h:VM D):∃ k:KK,k.1=D.kind:=by
 have c:=h.kind;unfold z3v at c;simp at c;exact⟨⟨D.kind,by omega⟩,rfl⟩
section
variable {D:MD} (hV:VM D) {k:KK} (hk:k.1=D.kind)
open CSR
def stq (A:RM (RK k)) (i o:Int) (f:Nat->RK k) (q:Nat) (p:Nat):RK k:=sum (fun q=>sum (fun d=>if A.ain q d=i/\A.aout q d=o/\A.ato q d=p then f q*A.aw q d else zero) (A.na q)) q
include hV hk
theorem x4j {sel:Int->Int->Bool} {i o:Int} (hsel:∀ a b,sel a b=true↔a=i/\b=o) {v:Nat->ByteArray} {q:Nat} {xq:RK k} (hq:q<D.n) (hv:Sv k (v q) xq):∀ (d:Nat) {s:WS} {lv:Nat->RK k},d<=D.na q->(∀ p,p<D.n->Pv k (s.1 p) (lv p))->(z3f D sel v q d s).2=0 ->
  s.2=0/\∀ p,p<D.n->Pv k ((z3f D sel v q d s).1 p) (lv p+sum (fun d=>if (rmOf k D).ain q d=i/\(rmOf k D).aout q d=o/\(rmOf k D).ato q d=p then xq*(rmOf k D).aw q d else zero) d)
 | 0,s,lv,_,h,he=>⟨he,fun p hp=>(h p hp).eq (a0 _).symm⟩
 | d+1,s,lv,hd,h,he=>by
  have hst:z3f D sel v q (d+1) s=arcC D sel v q d (z3f D sel v q d s):=rfl;rw[hst] at he ⊢;have ha:=hV.arc q d hq (by omega);have ht:(D.ato q d).toNat<D.n:=by have:=ha.t0;have:=ha.t1;omega
  have hw:=z4v hk ha.wt;generalize hZ:z3f D sel v q d s=Z at he ⊢;have ih:=x4j hsel hq hv (s:=s) (lv:=lv) d (by omega) h;rw[hZ] at ih;unfold arcC at he ⊢;by_cases hm:sel (D.ain q d) (D.aout q d)=true
  ·rw[if_pos hm] at he ⊢;have hm':=(hsel _ _).1 hm;have hz:Z.2=0:=by
    by_cases e:Z.2=0
    ·exact e
    exfalso
    have h1:z0s D.kind (v q) (D.aw q d) Z.2=(v q,Z.2):=if_pos e;rw[h1] at he;have h2:z2e D.kind (Z.1 (D.ato q d).toNat) (v q) Z.2=(v q,Z.2):=if_pos (.inr e);rw[h2] at he;exact e he
   obtain⟨hs0,ih⟩:=ih hz;refine⟨hs0,fun p hp=>?_⟩;have hpl:(z2e D.kind (Z.1 (D.ato q d).toNat) (z0s D.kind (v q) (D.aw q d) Z.2).1 (z0s D.kind (v q) (D.aw q d) Z.2).2).2=0:=he;have htm:(z0s D.kind (v q) (D.aw q d) Z.2).2=0:=by
    by_cases e:(z0s D.kind (v q) (D.aw q d) Z.2).2=0
    ·exact e
    have h2:z2e D.kind (Z.1 (D.ato q d).toNat) (z0s D.kind (v q) (D.aw q d) Z.2).1 (z0s D.kind (v q) (D.aw q d) Z.2).2=((z0s D.kind (v q) (D.aw q d) Z.2).1,(z0s D.kind (v q) (D.aw q d) Z.2).2):=if_pos (.inr e);rw[h2] at hpl;exact absurd hpl e
   have h1:=(y3g hk hv hw htm).2;have h2:=(y2v hk (ih _ ht) h1 hpl).2;show Pv k (updS Z.1 (D.ato q d).toNat _ p) _;unfold updS;by_cases e:p=(D.ato q d).toNat
   ·rw[if_pos e];refine .inr ?_;show Sv k _ (lv p+(sum _ d+(if D.ain q d=i/\D.aout q d=o/\(D.ato q d).toNat=p then xq*wval k (D.aw q d) else zero)))
    rw[if_pos ⟨hm'.1,hm'.2,e.symm⟩,<- aA,e];exact h2
   rw[if_neg e];refine(ih p hp).eq ?_;show _=lv p+(sum _ d+(if D.ain q d=i/\D.aout q d=o/\(D.ato q d).toNat=p then xq*wval k (D.aw q d) else zero))
   rw[if_neg (fun h=>e h.2.2.symm),a0]
  rw[if_neg hm] at he ⊢;obtain⟨hs0,ih⟩:=ih he;refine⟨hs0,fun p hp=>(ih p hp).eq ?_⟩;show _=lv p+(sum _ d+(if D.ain q d=i/\D.aout q d=o/\(D.ato q d).toNat=p then xq*wval k (D.aw q d) else zero))
  rw[if_neg (fun h=>hm ((hsel _ _).2 ⟨h.1,h.2.1⟩)),a0]
theorem y2y {sel:Int->Int->Bool} {i o:Int} (hsel:∀ a b,sel a b=true↔a=i/\b=o) {v:Nat->ByteArray} {vv:Nat->RK k} (hv:∀ q,q<D.n->Pv k (v q) (vv q)):∀ (q:Nat) {s:WS} {lv:Nat->RK k},q<=D.n->(∀ p,p<D.n->Pv k (s.1 p) (lv p))->(z2y D sel v q s).2=0 ->
  s.2=0/\∀ p,p<D.n->Pv k ((z2y D sel v q s).1 p) (lv p+stq (rmOf k D) i o vv q p)
 | 0,s,lv,_,h,he=>⟨he,fun p hp=>(h p hp).eq (a0 _).symm⟩
 | q+1,s,lv,hq,h,he=>by
  have hst:z2y D sel v (q+1) s=rowC D sel v q (z2y D sel v q s):=rfl;rw[hst] at he ⊢;unfold rowC at he ⊢
  rcases hv q (by omega) with ⟨h1,h2⟩|h1
  ·rw[if_pos h1] at he ⊢;obtain⟨hs0,ih⟩:=y2y hsel hv (s:=s) (lv:=lv) q (by omega) h he;refine⟨hs0,fun p hp=>(ih p hp).eq ?_⟩;show _=lv p+(stq (rmOf k D) i o vv q p+sum _ _);rw[sum_congr (g:=fun _=>zero) (fun d _=>by split;exact(by rw[h2,zm]);rfl),sum_zero,a0]
  rw[if_neg h1.ne] at he ⊢;have hz:(z2y D sel v q s).2=0:=by
   have h3:∀ d (s:WS),(z3f D sel v q d s).2=0->s.2=0:=by
    intro d
    induction d with
    | zero=>intro s h;exact h
    | succ d ih =>
     intro s h;refine ih s ?_;by_cases e:(z3f D sel v q d s).2=0
     ·exact e
     have h':(arcC D sel v q d (z3f D sel v q d s)).2=0:=h;unfold arcC at h'
     split at h'
     ·have h1:z0s D.kind (v q) (D.aw q d) (z3f D sel v q d s).2=(v q,(z3f D sel v q d s).2):=if_pos e;rw[h1] at h';have h2:z2e D.kind ((z3f D sel v q d s).1 (D.ato q d).toNat) (v q) (z3f D sel v q d s).2=(v q,(z3f D sel v q d s).2):=if_pos (.inr e);rw[h2] at h';exact absurd h' e
     exact absurd h' e
   exact h3 _ _ he
  obtain⟨hs0,ih⟩:=y2y hsel hv (s:=s) (lv:=lv) q (by omega) h hz;obtain⟨_,h4⟩:=x4j hV hk hsel (show q<D.n by omega) h1 (D.na q) nlr ih he;exact⟨hs0,fun p hp=>(h4 p hp).eq (aA _ _ _)⟩
theorem x4a {v:Nat->ByteArray} {vv:Nat->RK k} (hv:∀ q,q<D.n->Pv k (v q) (vv q)):∀ (q:Nat) {s:ByteArray × Nat} {x:RK k},q<=D.n->Sv k s.1 x->(endC D v q s).2=0->s.2=0/\Sv k (endC D v q s).1 (x+dot q vv (rmOf k D).fin)
 | 0,s,x,_,h,he=>⟨he,by show Sv k s.1 (x+zero);rw[a0];exact h⟩
 | q+1,s,x,hq,h,he=>by
  unfold endC at he ⊢;have hd:dot (q+1) vv (rmOf k D).fin=dot q vv (rmOf k D).fin+vv q*(rmOf k D).fin q:=rfl;rw[hd];by_cases hc:v q=⟨#[]⟩\/D.fin q=⟨#[]⟩
  ·rw[if_pos hc] at he ⊢;have hz:vv q*(rmOf k D).fin q=zero:=by
    rcases hc with h1|h1
    ·rcases hv q (by omega) with ⟨_,h2⟩|h2
     ·rw[h2,zm]
     exact absurd h1 h2.ne
    show vv q*(if D.fin q=⟨#[]⟩ then zero else wval k (D.fin q))=zero
    rw[if_pos h1,m0]
   rw[hz,a0];exact x4a hv q (by omega) h he
  rw[if_neg hc] at he ⊢;have h1:Sv k (v q) (vv q):=by
   rcases hv q (by omega) with ⟨h1,_⟩|h2
   ·exact absurd (.inl h1) hc
   exact h2
  have hf:D.fin q≠⟨#[]⟩:=fun e=>hc (.inr e);have hw:=z4v hk ((hV.fin q (by omega)).resolve_left hf);have hft:(rmOf k D).fin q=wval k (D.fin q):=if_neg hf;have hz:(endC D v q s).2=0:=by
   by_cases e:(endC D v q s).2=0
   ·exact e
   have h1:z0s D.kind (v q) (D.fin q) (endC D v q s).2=(v q,(endC D v q s).2):=if_pos e;rw[h1] at he;have h2:z2e D.kind (endC D v q s).1 (v q) (endC D v q s).2=(v q,(endC D v q s).2):=if_pos (.inr e);rw[h2] at he;exact absurd he e
  obtain⟨hs0,ih⟩:=x4a hv q (by omega) h hz;have htm:(z0s D.kind (v q) (D.fin q) (endC D v q s).2).2=0:=by
   by_cases e:(z0s D.kind (v q) (D.fin q) (endC D v q s).2).2=0
   ·exact e
   have h2:z2e D.kind (endC D v q s).1 (z0s D.kind (v q) (D.fin q) (endC D v q s).2).1 (z0s D.kind (v q) (D.fin q) (endC D v q s).2).2=((z0s D.kind (v q) (D.fin q) (endC D v q s).2).1,(z0s D.kind (v q) (D.fin q) (endC D v q s).2).2):=if_pos (.inr e);rw[h2] at he;exact absurd he e
  refine⟨hs0,?_⟩;rw[hft,<- aA];exact(y2v hk (.inr ih) (y3g hk h1 hw htm).2 he).2
theorem y8p {v:Nat->ByteArray} {vv:Nat->RK k} (j:∀ q,q<D.n->Pv k (v q) (vv q)) {e:Nat} (d:(finC D v e).2=0):e=0/\Sv k (finC D v e).1 (dot D.n vv (rmOf k D).fin):=by
 unfold finC at d ⊢;by_cases c:(endC D v D.n (z0z D.kind,e)).2≠0
 ·rw[if_pos c] at d;exact absurd d c
 rw[if_neg c];have h:Sv k (z0z D.kind) (zero:RK k):=by rw[<- hk];exact Sv.zero
 obtain⟨i,g⟩:=x4a hV hk j D.n (s:=(z0z D.kind,e)) nlr h (by omega);rw[z0] at g;exact⟨i,g⟩
omit hV hk
theorem z8d {j:Int} {a b:ByteArray} {e:Nat} (h:(z2e j a b e).2=0):e=0:=by
 unfold z2e at h;split at h
 ·exact h
 rename_i d;by_cases c:e=0
 ·exact c
 exact absurd (.inr c) d
theorem y1p {j:Int} {a b:ByteArray} {e:Nat} (h:(z0s j a b e).2=0):e=0:=by
 unfold z0s at h;split at h
 ·rename_i c;exact absurd h c
 omega
theorem y8z {j:Int} {S:Nat->Nat->ByteArray} {v:Nat->ByteArray} {q:Nat}:∀ (p:Nat) {s:WS},(rstP j S v q p s).2=0->s.2=0
 | 0,_,h=>h
 | p+1,s,h=>by
  unfold rstP at h;split at h
  ·exact y8z p h
  exact y8z p (y1p (z8d h))
theorem y4w {D:MD} {sel:Int->Int->Bool} {v:Nat->ByteArray} {q:Nat}:∀ (d:Nat) {s:WS},(z3f D sel v q d s).2=0->s.2=0
 | 0,_,h=>h
 | d+1,s,h=>by
  have h':(arcC D sel v q d (z3f D sel v q d s)).2=0:=h;unfold arcC at h';split at h'
  ·exact y4w d (y1p (z8d h'))
  exact y4w d h'
theorem z4f {D:MD} {sel:Int->Int->Bool} {v:Nat->ByteArray}:∀ (q:Nat) {s:WS},(z2y D sel v q s).2=0->s.2=0
 | 0,_,h=>h
 | q+1,s,h=>by
  have h':(rowC D sel v q (z2y D sel v q s)).2=0:=h;unfold rowC at h';split at h'
  ·exact z4f q h'
  exact z4f q (y4w _ h')
theorem v6n (y:Int):∀ a b,sel2 y a b=true↔a=0/\b=y:=fun a b=>by unfold sel2;simp
theorem x5w (x:Int):∀ a b,sel3 x a b=true↔a=x/\b=0:=fun a b=>by unfold sel3;simp
theorem v5t (x y:Int):∀ a b,sel4 x y a b=true↔a=x/\b=y:=fun a b=>by unfold sel4;simp
theorem x9b {j:Int} (hk:k.1=j) {n:Nat} {S:Nat->Nat->ByteArray} {M:Nat->Nat->RK k} {v:Nat->ByteArray} {q:Nat} {xq:RK k} (hq:q<n) (hS:∀ p,p<n->Sv k (S q p) (M q p)) (hv:Pv k (v q) xq):∀ (p:Nat) {s:WS} {lv:Nat->RK k},p<=n->(∀ p,p<n->Pv k (s.1 p) (lv p))->(rstP j S v q p s).2=0 ->
  s.2=0/\∀ r,r<n->Pv k ((rstP j S v q p s).1 r) (if r<p then lv r+xq*M q r else lv r)
 | 0,s,lv,_,h,he=>⟨he,fun r hr=>by rw[if_neg (by omega)];exact h r hr⟩
 | p+1,s,lv,hp,h,he=>by
  have ih:=x9b hk hq hS hv (s:=s) (lv:=lv) p (by omega) h;unfold rstP at he ⊢;have hSp:=hS p (by omega);by_cases hc:v q=⟨#[]⟩\/S q p=z0z j
  ·rw[if_pos hc] at he ⊢;obtain⟨hs0,ih⟩:=ih he;have hz:xq*M q p=zero:=by
    rcases hc with h1|h1
    ·rcases hv with ⟨_,h2⟩|h2
     ·rw[h2,zm]
     exact absurd h1 h2.ne
    rw[<- hk] at h1;rw[hSp.eq_zero.1 h1,m0]
   refine⟨hs0,fun r hr=>(ih r hr).eq ?_⟩;by_cases e:r<p
   ·rw[if_pos e,if_pos (by omega)]
   rw[if_neg e];by_cases e2:r=p
   ·rw[if_pos (by omega),e2,hz,a0]
   rw[if_neg (by omega)]
  rw[if_neg hc] at he ⊢;have h1:Sv k (v q) xq:=by
   rcases hv with ⟨h1,_⟩|h2
   ·exact absurd (.inl h1) hc
   exact h2
  generalize rstP j S v q p s=Z at he ih ⊢;have he':(z2e j (Z.1 p) (z0s j (v q) (S q p) Z.2).1 (z0s j (v q) (S q p) Z.2).2).2=0:=he;have htm:(z0s j (v q) (S q p) Z.2).2=0:=by
   by_cases e:(z0s j (v q) (S q p) Z.2).2=0
   ·exact e
   have h2:z2e j (Z.1 p) (z0s j (v q) (S q p) Z.2).1 (z0s j (v q) (S q p) Z.2).2=((z0s j (v q) (S q p) Z.2).1,(z0s j (v q) (S q p) Z.2).2):=if_pos (.inr e);rw[h2] at he';exact absurd he' e
  have ht:=y3g hk h1 hSp htm;obtain⟨hs0,ih⟩:=ih ht.1;have hip:=ih p (by omega);rw[if_neg (by omega)] at hip;have hpl:=(y2v hk hip ht.2 he').2;refine⟨hs0,fun r hr=>?_⟩;show Pv k (updS Z.1 p _ r) _;unfold updS;by_cases e:r=p
  ·rw[if_pos e,if_pos (by omega),e];exact .inr hpl
  rw[if_neg e];refine(ih r hr).eq ?_;by_cases e2:r<p
  ·rw[if_pos e2,if_pos (by omega)]
  rw[if_neg e2,if_neg (by omega)]
theorem x9v {j:Int} (hk:k.1=j) {n:Nat} {S:Nat->Nat->ByteArray} {M:Nat->Nat->RK k} {v:Nat->ByteArray} {vv:Nat->RK k} (hS:∀ q p,q<n->p<n->Sv k (S q p) (M q p)) (hv:∀ q,q<n->Pv k (v q) (vv q)):∀ (q:Nat) {s:WS} {lv:Nat->RK k},q<=n->(∀ p,p<n->Pv k (s.1 p) (lv p))->(rstQ j S v n q s).2=0 ->
  s.2=0/\∀ r,r<n->Pv k ((rstQ j S v n q s).1 r) (lv r+sum (fun q=>vv q*M q r) q)
 | 0,s,lv,_,h,he=>⟨he,fun r hr=>(h r hr).eq (a0 _).symm⟩
 | q+1,s,lv,hq,h,he=>by
  have he':(rstP j S v q n (rstQ j S v n q s)).2=0:=he;have hz:=y8z n he';obtain⟨hs0,ih⟩:=x9v hk hS hv (s:=s) (lv:=lv) q (by omega) h hz;obtain⟨_,h4⟩:=x9b hk (show q<n by omega) (fun p hp=>hS q p (by omega) hp) (hv q (by omega)) n nlr ih he';exact⟨hs0,fun r hr=>(h4 r hr).eq (by rw[if_pos hr];exact aA _ _ _)⟩
end
open CSR
def StOk (k:KK) (D:MD) (st:StarO):Prop:=match st with
 | none=>∀ q p,q<D.n->p<D.n->sil (rmOf k D) q p=zero
 | some S=>∀ q p,q<D.n->p<D.n->Sv k (S q p) (starM (sil (rmOf k D)) D.n q p)
theorem y6v {R:Type} [CSR R] {M:Nat->Nat->R} {n:Nat} (h:∀ q p,q<n->p<n->M q p=zero) {q p:Nat} (c:q<n) (i:p<n):starM M n q p=eye q p:=by
 rw[starM_left M i,sum_congr (g:=fun _=>zero) (fun r d=>by rw[h q r c d,zm]),sum_zero,a0]
theorem x5k {R:Type} [CSR R] {M:Nat->Nat->R} {n:Nat} (h:∀ q p,q<n->p<n->M q p=zero) (v:Nat->R) {p:Nat} (c:p<n):rst M n v p=v p:=by
 unfold rst;rw[sum_single _ c (fun q g d=>by rw[y6v h g c,eye,if_neg d,m0]),y6v h c c,eye,if_pos rfl,m1]
theorem y8j {k:KK} {D:MD} (l:k.1=D.kind) {st:StarO} (d:StOk k D st) {v:Nat->ByteArray} {vv:Nat->RK k} (i:∀ q,q<D.n->Pv k (v q) (vv q)) {e:Nat} (c:(z3w D.kind D.n st v e).2=0) :
  e=0/\∀ p,p<D.n->Pv k ((z3w D.kind D.n st v e).1 p) (rst (sil (rmOf k D)) D.n vv p):=by
 cases st with
 | none=>exact⟨c,fun p g=>(i p g).eq (x5k d vv g).symm⟩
 | some S =>
  have j:z3w D.kind D.n (some S) v e=if e≠0 then (v,e) else rstQ D.kind S v D.n D.n (z1f,e):=rfl
  rw[j] at c ⊢;by_cases h:e≠0
  ·rw[if_pos h] at c;exact absurd c h
  rw[if_neg h] at c ⊢;obtain⟨_,m⟩:=x9v l d i D.n (s:=(z1f,e)) (lv:=fun _=>zero) nlr (fun p _=>.inl ⟨rfl,rfl⟩) c;exact⟨by omega,fun p g=>(m p g).eq (z0 _)⟩
def Orl (k:KK) (n:Nat) (o:Option VV) (u:Nat->RK k):Prop:=match o with
 | none=>∀ p,p<n->u p=zero
 | some v=>∀ p,p<n->Pv k (v p) (u p)
theorem Orl.getD {k:KK} {n:Nat} {o:Option VV} {u:Nat->RK k} (h:Orl k n o u):∀ p,p<n->Pv k ((o.getD z1f) p) (u p):=fun p c=>by
 cases o with
 | none=>exact .inl ⟨rfl,h p c⟩
 | some v=>exact h p c
def updK {k:KK} (U:Bool->Nat->Nat->RK k) (b:Bool) (j:Nat) (u:Nat->RK k):Bool->Nat->Nat->RK k:=fun b' j'=>if b'=b/\j'=j then u else U b' j'
def Rel (k:KK) (n:Nat) (S:Bool->Nat->Option VV) (U:Bool->Nat->Nat->RK k):Prop:=∀ b j,Orl k n (S b j) (U b j)
theorem Rel.upd {k:KK} {n:Nat} {S:Bool->Nat->Option VV} {U:Bool->Nat->Nat->RK k} (h:Rel k n S U) {b:Bool} {j:Nat} {v:VV} {u:Nat->RK k} (g:∀ p,p<n->Pv k (v p) (u p)):Rel k n (updV S b j v) (updK U b j u):=by
 intro d c;unfold updV updK;by_cases e:d=b/\c=j
 ·rw[if_pos e,if_pos e];exact g
 rw[if_neg e,if_neg e];exact h d c
theorem y4c {k:Int} {n:Nat} {st:StarO} {v:Nat->ByteArray} {e:Nat} (h:(z3w k n st v e).2=0):e=0:=by
 cases st with
 | none=>exact h
 | some S =>
  have c:(if e≠0 then (v,e) else rstQ k S v n n (z1f,e):WS).2=0:=h
  split at c
  ·exact c
  omega
theorem v1x {D:MD} {st:StarO} {na:Nat} {x:Nat->Int} {nb:Nat} {y:Nat->Int} {i j:Nat} (s:RS) (h:(y0u D st na x nb y i j s).2=0):s.2=0:=by
 unfold y0u at h
 split at h
 ·exact h
 rename_i v _;have g:∀ (r:VV) (t:RS),(cell3 D na x nb y i j r t).2=0->t.2=0:=fun r t h=>by
  unfold cell3 at h;split at h
  ·exact z4f D.n (s:=((t.1 true (j+1)).getD z1f,t.2)) h
  exact h
 have c:∀ (r:VV) (t:RS),(cell2 D na x i j r t).2=0->t.2=0:=fun r t h=>by
  unfold cell2 at h;split at h
  ·exact z4f D.n (s:=((t.1 true j).getD z1f,t.2)) h
  exact h
 have d:∀ (r:VV) (t:RS),(cell1 D nb y j r t).2=0->t.2=0:=fun r t h=>by
  unfold cell1 at h;split at h
  ·exact z4f D.n (s:=((t.1 false (j+1)).getD z1f,t.2)) h
  exact h
 exact y4c (d _ _ (c _ _ (g _ _ h)))
theorem y8m {D:MD} {v:Nat->ByteArray}:∀ (q:Nat) {t:ByteArray × Nat},(endC D v q t).2=0->t.2=0
 | 0,_,h=>h
 | q+1,t,h=>by
  unfold endC at h
  split at h
  ·exact y8m q h
  exact y8m q (y1p (z8d h))
theorem y0e {D:MD} {v:Nat->ByteArray} {e:Nat} (h:(finC D v e).2=0):e=0:=by
 unfold finC at h
 split at h
 ·rename_i c;exact absurd h c
 rename_i c;have d:(endC D v D.n (z0z D.kind,e)).2=0:=by omega
 exact y8m D.n d
theorem x4n {D:MD} {st:StarO} {na:Nat} {x:Nat->Int} {nb:Nat} {y:Nat->Int}:∀ {m i:Nat} {row:Nat->Option VV} {e:Nat},(outG D st na x nb y m i row e).2=0->e=0
 | 0,_,_,_,h=>y0e h
 | m+1,i,row,e,h=>by
  unfold outG at h
  split at h
  ·exact y0e h
  omega
section
variable {D:MD} (hV:VM D) {k:KK} (hk:k.1=D.kind)
include hV hk
theorem y4y {b:Bool} {j:Nat} {sel:Int->Int->Bool} {i o:Int} (c:∀ a b,sel a b=true↔a=i/\b=o) {v:VV} {f:Nat->RK k} (g:∀ q,q<D.n->Pv k (v q) (f q)) {s:RS} {U:Bool->Nat->Nat->RK k} (h:Rel k D.n s.1 U) (l:(z3d D b j sel v s).2=0) :
  s.2=0/\Rel k D.n (z3d D b j sel v s).1 (updK U b j (fun p=>U b j p+stp (rmOf k D) i o f p)):=by
 have d:=y2y hV hk c g D.n (s:=((s.1 b j).getD z1f,s.2)) (lv:=U b j) nlr (h b j).getD l;exact⟨d.1,h.upd d.2⟩
variable {na:Nat} {x:Nat->Int} {nb:Nat} {y:Nat->Int} {st:StarO} (hst:StOk k D st)
include hst
theorem v4g {i j:Nat} (hj:j<=nb) {s:RS} {U:Bool->Nat->Nat->RK k} (h:Rel k D.n s.1 U) (z:(y0u D st na x nb y i j s).2=0) :
  s.2=0/\∃ U' f,Rel k D.n (y0u D st na x nb y i j s).1 U'/\Cell (rmOf k D) na x nb y i j f (U false) (U true) (U' false) (U' true)/\∀ p,p<D.n->U' false j p=f p:=by
 unfold y0u at z ⊢;have C:=h false j;cases hs:s.1 false j with
 | none =>
  rw[hs] at z C;have I:∀ (i o:Int) p,stp (rmOf k D) i o (fun _=>(zero:RK k)) p=zero:=fun i o p=>by
   unfold stp;rw[sum_congr (g:=fun _=>zero) (fun q _=>?_),sum_zero];rw[sum_congr (g:=fun _=>zero) (fun d _=>by split;exact zm _;rfl),sum_zero]
  refine⟨z,U,fun _=>zero,h,⟨fun p F=>?_,fun _ p _=>?_,fun _ _ _ _ _ _=>rfl,fun _ p _=>?_,fun _ _ p _=>?_,fun _ _ _ _ _ _ _=>rfl⟩,fun p F=>C p F⟩
  ·unfold rst;rw[sum_congr (g:=fun _=>zero) (fun q hq=>by rw[C q hq,zm]),sum_zero]
  ·rw[I,a0]
  ·rw[I,a0]
  rw[I,a0]
 | some v =>
  rw[hs] at z C;simp only at z ⊢;generalize hr:z3w D.kind D.n st v s.2=r at z ⊢;have H:=y8j hk hst (v:=v) (vv:=U false j) C (e:=s.2);rw[hr] at H;obtain⟨f,hf⟩:=exq (rst (sil (rmOf k D)) D.n (U false j));rw[<- hf] at H;have e3:(cell2 D na x i j r.1 (cell1 D nb y j r.1 (updV s.1 false j r.1,r.2))).2=0/\∀ E:Bool->Nat->Nat->RK k,(∀ q,q<D.n->Pv k (r.1 q) (f q))->Rel k D.n (cell2 D na x i j r.1 (cell1 D nb y j r.1 (updV s.1 false j r.1,r.2))).1 E ->
    Rel k D.n (cell3 D na x nb y i j r.1 (cell2 D na x i j r.1 (cell1 D nb y j r.1 (updV s.1 false j r.1,r.2)))).1 (if i<na/\j<nb then updK E true (j+1) (fun p=>E true (j+1) p+stp (rmOf k D) (x i) (y j) f p) else E):=by
   generalize cell2 D na x i j r.1 (cell1 D nb y j r.1 (updV s.1 false j r.1,r.2))=s2 at z ⊢;unfold cell3 at z ⊢;by_cases c:i<na/\j<nb
   ·rw[if_pos c] at z;have J:s2.2=0:=z4f D.n z;refine⟨J,fun E A B=>?_⟩;rw[if_pos c,if_pos c];exact(y4y hV hk (v5t (x i) (y j)) A B z).2
   rw[if_neg c] at z;exact⟨z,fun E A B=>by rw[if_neg c,if_neg c];exact B⟩
  obtain⟨l,g3⟩:=e3;have e2:(cell1 D nb y j r.1 (updV s.1 false j r.1,r.2)).2=0/\∀ U1:Bool->Nat->Nat->RK k,(∀ q,q<D.n->Pv k (r.1 q) (f q))->Rel k D.n (cell1 D nb y j r.1 (updV s.1 false j r.1,r.2)).1 U1 ->
    Rel k D.n (cell2 D na x i j r.1 (cell1 D nb y j r.1 (updV s.1 false j r.1,r.2))).1 (if i<na then updK U1 true j (fun p=>U1 true j p+stp (rmOf k D) (x i) 0 f p) else U1):=by
   generalize cell1 D nb y j r.1 (updV s.1 false j r.1,r.2)=s2 at l ⊢;unfold cell2 at l ⊢;by_cases c:i<na
   ·rw[if_pos c] at l;refine⟨z4f D.n l,fun E A B=>?_⟩;rw[if_pos c,if_pos c];exact(y4y hV hk (x5w (x i)) A B l).2
   rw[if_neg c] at l;exact⟨l,fun E A B=>by rw[if_neg c,if_neg c];exact B⟩
  obtain⟨m,Z⟩:=e2;have e1:r.2=0/\∀ U0:Bool->Nat->Nat->RK k,(∀ q,q<D.n->Pv k (r.1 q) (f q))->Rel k D.n (updV s.1 false j r.1) U0 ->
    Rel k D.n (cell1 D nb y j r.1 (updV s.1 false j r.1,r.2)).1 (if j<nb then updK U0 false (j+1) (fun p=>U0 false (j+1) p+stp (rmOf k D) 0 (y j) f p) else U0):=by
   unfold cell1 at m ⊢;by_cases c:j<nb
   ·rw[if_pos c] at m;refine⟨z4f D.n (s:=(((updV s.1 false j r.1) false (j+1)).getD z1f,r.2)) m,fun E A B=>?_⟩;rw[if_pos c,if_pos c];exact(y4y hV hk (v6n (y j)) (s:=(updV s.1 false j r.1,r.2)) A B m).2
   rw[if_neg c] at m;exact⟨m,fun E A B=>by rw[if_neg c,if_neg c];exact B⟩
  obtain⟨P,T⟩:=e1;obtain⟨Q,A⟩:=H P;have S:=h.upd (b:=false) (j:=j) (v:=r.1) (u:=f) A;have r1:=T _ A S;have X:=Z _ A r1;have Y:=g3 _ A X;refine⟨Q,_,f,Y,⟨fun p F=>by rw[hf];rfl,fun c p F=>?_,fun W O R L p F=>?_,fun c p F=>?_,fun c K p F=>?_,fun c W O R L p F=>?_⟩,fun p F=>?_⟩
  all_goals clear T Z g3 S r1 X Y m l z H
  ·by_cases O:i<na<;>simp[c,O,updK]
  ·have h6:W≠j:=by omega
   by_cases N:i<na<;>by_cases G:j<nb<;>simp[N,G,updK,L,h6]
  ·by_cases G:j<nb<;>simp[c,G,updK]
  ·simp[c,K,updK]
  ·by_cases G:j<nb<;>simp[c,G,updK,R,L]
  by_cases N:i<na<;>by_cases G:j<nb<;>simp[N,G,updK]
theorem v1e {i:Nat} (hi:i<=na) (hx:∀ i,i<na->x i≠0) (hy:∀ j,j<nb->y j≠0) {s:RS} {U:Bool->Nat->Nat->RK k} (h:Rel k D.n s.1 U):∀ j,j<=nb+1->(colG D st na x nb y i j s).2=0 ->
  s.2=0/\∃ U',Rel k D.n (colG D st na x nb y i j s).1 U'/\phi (rmOf k D) na x nb y i 0 (U false) (U true)=(if i=na/\j=nb+1 then dot D.n (U' false nb) (rmOf k D).fin else zero)+phi (rmOf k D) na x nb y i j (U' false) (U' true)
 | 0,_,he=>⟨he,U,h,by rw[if_neg (by omega),z0]⟩
 | j+1,hj,he=>by
  have hst':colG D st na x nb y i (j+1) s=y0u D st na x nb y i j (colG D st na x nb y i j s):=rfl;rw[hst'] at he ⊢;have h0:(colG D st na x nb y i j s).2=0:=by
   by_cases e:(colG D st na x nb y i j s).2=0
   ·exact e
   exfalso
   exact e (v1x _ he)
  obtain⟨hs0,U1,hU1,hphi⟩:=v1e hi hx hy h j (by omega) h0;obtain⟨_,U2,f,hU2,hc,hf⟩:=v4g hV hk hst (show j<=nb by omega) hU1 he;refine⟨hs0,U2,hU2,?_⟩;rw[hphi,if_neg (by omega),z0,Cell.phi hx hy (hV.inn k) hc hi (by omega)]
  congr 1
  by_cases e:i=na/\j=nb
  ·obtain⟨rfl,rfl⟩:=e;rw[if_pos ⟨rfl,rfl⟩];have hd:=v1d (A:=rmOf k D) (na:=i) (nb:=j) f;rw[hd];exact(z1m (n:=D.n) (fun p hp=>hf p hp) (fun _ _=>rfl)).symm
  rw[if_neg (fun h=>e ⟨h.1,by omega⟩)];exact v3d (A:=rmOf k D) f e
theorem v3g (hx:∀ i,i<na->x i≠0) (hy:∀ j,j<nb->y j≠0):∀ (m i:Nat) (row:Nat->Option VV) (e:Nat) (u:Nat->Nat->RK k) (T:RK k),m+i=na+1->(∀ j,Orl k D.n (row j) (u j))->(if i<=na then phi (rmOf k D) na x nb y i 0 u (fun _ _=>zero)=T else T=zero)->(outG D st na x nb y m i row e).2=0->e=0/\Sv k (outG D st na x nb y m i row e).1 T
 | 0,i,row,e,u,T,hm,_,hT,he=>by
  rw[if_neg (by omega)] at hT;have h1:=y8p hV hk (v:=z1f) (vv:=fun _=>zero) (fun _ _=>.inl ⟨rfl,rfl⟩) (e:=e) he;rw[y0i] at h1;rw[hT];exact h1
 | m+1,i,row,e,u,T,hm,hr,hT,he=>by
  rw[if_pos (by omega)] at hT;unfold outG at he ⊢;by_cases h1:e≠0
  ·rw[if_pos h1] at he;exact absurd (y8p hV hk (v:=z1f) (vv:=fun _=>zero) (fun _ _=>.inl ⟨rfl,rfl⟩) he).1 h1
  rw[if_neg h1] at he ⊢;have hU:Rel k D.n (twoR row (fun _=>none)) (fun b j=>if b then fun _=>zero else u j):=by
   intro b j;cases b
   ·exact hr j
   exact fun _ _=>rfl
  generalize hC:colG D st na x nb y i (nb+1) (twoR row (fun _=>none),e)=C at he ⊢;have hcol:=v1e hV hk hst (show i<=na by omega) hx hy (s:=(twoR row (fun _=>none),e)) hU (nb+1) nlr;rw[hC] at hcol;have hphi0:phi (rmOf k D) na x nb y i 0 ((fun b j=>if b then fun _=>zero else u j:Bool->Nat->Nat->RK k) false) ((fun b j=>if b then fun _=>zero else u j:Bool->Nat->Nat->RK k) true)=T:=hT
  by_cases h2:i=na/\(C.1 false nb).isSome=true
  ·rw[if_pos h2] at he ⊢;have hz:C.2=0:=by
    by_cases e0:C.2=0
    ·exact e0
    exfalso
    have h3:(finC D ((C.1 false nb).getD z1f) C.2).2=0:=he;exact e0 (y0e h3)
   obtain⟨_,U',hU',hp⟩:=hcol hz;rw[hphi0,if_pos ⟨h2.1,rfl⟩,h2.1,x3w,a0] at hp;have h3:=y8p hV hk (v:=(C.1 false nb).getD z1f) (vv:=U' false nb) (hU' false nb).getD he;exact⟨by omega,by rw[hp];exact h3.2⟩
  rw[if_neg h2] at he ⊢;have hz:C.2=0:=by
   by_cases e0:C.2=0
   ·exact e0
   exfalso
   exact e0 (x4n he)
  obtain⟨_,U',hU',hp⟩:=hcol hz;rw[hphi0] at hp;refine⟨by omega,?_⟩;refine(v3g hx hy m (i+1) (C.1 true) C.2 (U' true) T (by omega) (fun j=>hU' true j) ?_ he).2;by_cases h3:i=na
  ·rw[if_neg (by omega)];rw[if_pos ⟨h3,rfl⟩,h3,x3w,a0] at hp;have h4:=hU' false nb;have h5:C.1 false nb=none:=by
    cases h6:C.1 false nb with
    | none=>rfl
    | some v=>exact absurd ⟨h3,by rw[h6];rfl⟩ h2
   rw[h5] at h4;rw[hp];have h7:dot D.n (U' false nb) (rmOf k D).fin=dot D.n (fun _=>zero) (rmOf k D).fin:=z1m (fun p hp=>h4 p hp) (fun _ _=>rfl);rw[h7,y0i]
  rw[if_pos (by omega)];rw[if_neg (fun h=>h3 h.1),z0,v2t (show i<na by omega) (next':=fun _ _=>zero) (fun _ _ _ _=>rfl)] at hp;exact hp.symm
theorem v9w (m:∀ i,i<na->x i≠0) (l:∀ j,j<nb->y j≠0) {d:Nat} (h:(wgtG D st d na x nb y).2=0):d=0/\Sv k (wgtG D st d na x nb y).1 (rel (rmOf k D) (ls x na 0) (ls y nb 0)):=by
 refine v3g hV hk hst m l (na+1) 0 _ d (fun j p=>if j=0 then (if p=(rmOf k D).start then (rmOf k D).lead else zero) else zero) _ (by omega) (fun j=>?_) ?_ h
 ·by_cases e:j=0
  ·rw[if_pos e];intro p g;show Pv k (z6k D p) _;unfold z6k;simp only[if_pos e];by_cases c:p=D.start.toNat
   ·rw[if_pos c,if_pos (show p=(rmOf k D).start from c)];exact .inr (z4v hk hV.lead)
   rw[if_neg c,if_neg (show ¬ p=(rmOf k D).start from c)];exact .inl ⟨rfl,rfl⟩
  rw[if_neg e];intro p g;simp only[if_neg e]
 rw[if_pos (by omega)];exact x1h (hV.inn k) (hV.stn k) (fun p _=>by simp) (fun j o _ p _=>by simp only[if_neg (show ¬ j=0 by omega)]) (fun _ _ _ _=>rfl)
end
end
section
open Go.RowKit Go.Deep Go.Maps Go.WideMaps
def Sq (k:Int) (n:Nat) (L:Nat->Nat) (X:Nat->Nat->ByteArray):Prop:=∀ i,i<n->L i=n/\∀ j,j<n->z0q k (X i j)=true
theorem Sq.mat {k:KK} {n:Nat} {L:Nat->Nat} {X:Nat->Nat->ByteArray} (h:Sq k.1 n L X):MatIs 0 n X (fun i j=>wval k (X i j)):=fun i j hi c=>y3w ((h i hi).2 j c)
def StarE (k0:Int) (n:Nat) (L:Nat->Nat) (X:Nat->Nat->ByteArray) (w:World) (r:Ending) (w':World):Prop :=
 Below w.heap.size w w' /\
 (
  (¬ (z3v k0=true/\Sq k0 n L X)/\r=.returned (.tuple #[.slice none 0 0,.int .i64 1])) \/
  (60<n/\z3v k0=true/\Sq k0 n L X/\r=.returned (.tuple #[.slice none 0 0,.int .i64 2])) \/
  (n<=60/\∃ (k:KK) (M:Nat->Nat->RK k),k.1=k0/\Sq k0 n L X/\(M=fun i j=>wval k (X i j))/\MatIs 0 n X M /\
   ((∃ v Y,r=.returned (.tuple #[v,.int .i64 0])/\Mt none w' v n (fun _=>n) Y/\MatIs 0 n Y (CSR.starM M n)) \/
   (r=.returned (.tuple #[.slice none 0 0,.int .i64 2])/\¬ FitM n M))))
abbrev knT:TypeId:=9
abbrev kiT:TypeId:=3
theorem u1y:Keyed prog knT:=string_keyed underlying9
theorem u5p (w:World):(zeroValue kiT).run prog w=.ok (.int .i64 0) w:=by kernel_rfl
def KnInv (k:Int) (D:DataW Unit):Prop:=IsMap D/\∀ s:ByteArray,D.atKey (.string s.data.toList) (.lit (.int .i64 0))=.lit (.int .i64 0)\/z0q k s=true
theorem KnInv.start (k:Int):KnInv k (.map []):=⟨isMap_empty,fun _=>.inl rfl⟩
theorem KnInv.put {k:Int} {D:DataW Unit} (h:KnInv k D) {x:ByteArray} (i:z0q k x=true) (d:DataW Unit):KnInv k (D.put (.string x.data.toList) d):=⟨h.1.put _ _,fun s=>by
 by_cases e:s=x
 ·subst e;exact .inr i
 rcases h.2 s with c|c
 ·left
  rw[atKey_put_other (fun g=>e (by
   have:s.data.toList=x.data.toList:=by simpa using g
   exact ByteArray.ext (Array.toList_inj.1 this)))]
  exact c
 exact .inr c⟩
theorem KnInv.ok {k:Int} {D:DataW Unit} (h:KnInv k D) {x:ByteArray} {c:Int} (g:D.atKey (.string x.data.toList) (.lit (.int .i64 0))=.lit (.int .i64 c)) (i:c≠0):z0q k x=true:=by
 rcases h.2 x with d|d
 ·rw[g] at d;simp at d;exact absurd d i
 exact d
theorem v6r {k0:Int} {n:Nat} {L:Nat->Nat} {X:Nat->Nat->ByteArray} {v:Value} (w:World) (hn:n<=100) (hA:Mt none w v n L X) (hz:∀ i j,(X i j).size<=maxLen) (ht:Tab w) :
  Calls prog 124 #[.int .i64 k0,v] w (StarE k0 n L X w):=by
 obtain⟨a,f5,b,e9,A,C,BB,O,rfl,ha,hc,hm,hb,a6⟩:=hA.open;unfold maxLen at hm;have HZ:=qh hz;clear hz;have HT:=qh ht;clear ht;have d1:=qh hA;clear hA;have HA:=qh ha;clear ha;have HB:=qh hb;clear hb;have HR:=qh a6;clear a6;have ho:=z7f k0 w;cases hk:z3v k0
 ·have h1:oneF k0=⟨#[]⟩:=by unfold oneF;rw[hk];rfl
  rw[h1] at ho;have HO:=qh ho;clear ho
  go_enter func124,ntmps124
  go_wp2_with fail
  refine HO.out.mono ?_;rintro r w1 ⟨rfl,a3⟩;go_wp2;go_ret2;exact⟨a3,.inl ⟨fun h=>by rw[hk] at h;exact absurd h.1 (by simp),rfl⟩⟩
 have g2:k0=1\/k0=2\/k0=3:=by unfold z3v at hk;simp at hk;omega
 obtain⟨k,rfl⟩:∃ k:KK,k.1=k0:=⟨⟨k0,g2⟩,rfl⟩;have HO:=qh ho;clear ho;have h1:((oneF k.1).toList==[])=false:=by
  unfold oneF;rw[hk]
  rcases k.2 with e|e|e<;>rw[e]<;>decide +kernel
 have h3:=@run_makeMap prog;have HK:=qh hk;clear hk
 go_enter func124,ntmps124
 go_wp2_with fail
 refine HO.out.mono ?_;rintro r w1 ⟨rfl,a3⟩;have b2:=qh a3;clear a3
 go_wp2_with fail
 obtain⟨mb,a4⟩:=exq (w1.heap.size);rw[<- a4];have N:(w1.alloc (.map #[] 0)).ownsMap (H:=Unit) prog knT (plainElem prog kiT) mb 0 (.map []):=by rw[a4];exact World.ownsMap_made _ _ _ _
 have a7:Below w.heap.size w (w1.alloc (.map #[] 0)):=b2.out.alloc b2.out.size _;have a8:w.heap.size<=mb:=by rw[a4];exact b2.out.size
 have e0:=qh N;clear N;have e3:=qh a7;clear a7;clear a4
 go_loopw [18] (fun i wr=>∃ (q m:Nat) (D:DataW Unit),q<=n/\m<=q*100/\i=.int .i64 (q:Int)/\(∀ l,l<q->L l=n/\∀ j,j<n->z0q k.1 (X l j)=true) /\
  wr.ownsMap prog knT (plainElem prog kiT) mb m D/\KnInv k.1 D/\Below w.heap.size w wr) (fun i _=>n-(intOf i).toNat)
 case atStart=>exact⟨0,0,_,Nat.zero_le _,nlr,rfl,fun l hl=>by omega,e0.out,KnInv.start _,e3.out⟩
 obtain⟨q,m,D,hq,d9,rfl,s,u,B,Q⟩:=hrel;clear e0 e3;have d4:=qh s;clear s;have K:=qh u;clear u;have I:=qh B;clear B;have g:=qh Q;clear Q;have g0:=qh d9;clear d9;by_cases b6:q<n
 ·have g8:(q:Int)<(n:Int):=by omega
  have g7:(0:Int)<=(q:Int):=by omega
  obtain rfl:=HA.out (by omega);have f4:=(HB.out (by omega)).1;obtain⟨k1,k2,k3,k4,k5,_,k7⟩:=HR.out q b6;have c0:=(g.out.cell (p:=⟨b,e9+q,none⟩) f4).trans k1;clear k1;unfold maxLen at k3;by_cases hL:L q=n
  ·have e7:((L q:Int)==(n:Int))=true:=by simp;omega
   rw[hL] at c0 k4 k7 e7;obtain c8:=k4 (by omega);have g3:=(k5 (by omega)).1;rw[c8] at c0;have HC:=qh k7;clear k7 k4 k5 c8
   go_wp2_with fail
   go_loopw [29] (fun i wr=>∃ (d m':Nat) (D':DataW Unit),d<=n/\m'<=q*100+d/\i=.int .i64 (d:Int)/\(∀ j,j<d->z0q k.1 (X q j)=true) /\
    wr.ownsMap prog knT (plainElem prog kiT) mb m' D'/\KnInv k.1 D'/\Below w.heap.size w wr) (fun i _=>n-(intOf i).toNat)
   case atStart=>exact⟨0,m,D,Nat.zero_le _,by have:=g0.out;omega,rfl,fun j hj=>by omega,K.out,I.out,g.out⟩
   obtain⟨d,m',D',hd,c9,rfl,s,u,B,Q⟩:=hrel;clear K I g c0;have b1:=qh s;clear s;have K:=qh u;clear u;have I:=qh B;clear B;have g:=qh Q;clear Q;have a5:=qh c9;clear c9;by_cases a9:d<n
   ·have h0:(d:Int)<(n:Int):=by omega
    have g6:(0:Int)<=(d:Int):=by omega
    obtain⟨x,hx⟩:=exq (X q d);have c1:=(g.out.cell (p:=⟨BB q,O q+d,none⟩) g3).trans (HC.out d a9);rw[<- hx] at c1;have a1:=HZ.out q d;rw[<- hx] at a1;have a2:keyOf prog knT (.string x)=some (.string x.data.toList):=keyOf_string_mk underlying9 a1;obtain⟨c,R,d3,_⟩:=K.out.lookup_int u1y underlying166 underlying3 (u5p _) a2;have f3:=qh d3;clear d3;have c7:=qh a2;clear a2;have b5:=qh hx;clear hx;have hv:=y7f k.1 x wr (by unfold maxLen at a1;exact a1) (HT.out.below g.out nlr);clear a1;have b0:m' < maxLen:=by have:=a5.out;unfold maxLen;omega
    have e5:=qh b0;clear b0;by_cases hc:c=0
    ·subst hc;cases o:z0q k.1 x
     ·rw[o] at hv;have HV:=qh hv;clear hv
      go_wp2_with fail
      refine HV.out.mono ?_;rintro r w2 ⟨rfl,E⟩;clear R c1;go_wp2;go_ret2;exact⟨g.out.trans (E.mono g.out.size),.inl ⟨fun h=>by have:=(h.2 q b6).2 d a9;rw[<- b5.out,o] at this;exact absurd this (by simp),rfl⟩⟩
     rw[o] at hv;have HV:=qh hv;clear hv
     go_wp2_with fail
     refine HV.out.mono ?_;rintro r w2 ⟨rfl,E⟩;clear R c1;have Z:=K.out.kept (z0b E none) (by simp);have T:=g.out.trans (E.mono g.out.size);clear E
     go_wp2_with (first
      | (at_mapUpdate;refine wpList_mapUpdate_own _ rfl _ _ _ 166 rfl knT kiT u1y underlying166 _ mb m' _ rfl Z e5.out _ _ _ rfl rfl c7.out _ [] (plainElem_int underlying3 (by decide)) ?_)
      | go_in)
     intro w3 J G;have P:=T.grown G T.size (fun j hj=>by cases hj;exact a8);clear Z T G;go_wp2;go_roundw
     case rel =>
      refine⟨d+1,m'+1,_,by omega,by have:=a5.out;omega,by go_num,fun j hj=>?_,J,I.out.put o _,P⟩
      rcases Nat.lt_succ_iff_lt_or_eq.1 hj with U|U
      ·exact b1.out j U
      subst U;rw[<- b5.out];exact o
     simp[intOf];omega
    have g9:(c==0)=false:=by simp;exact hc
    have o:z0q k.1 x=true:=I.out.ok f3.out hc;clear hv
    go_wp2_with (first
      | (at_mapUpdate;refine wpList_mapUpdate_own _ rfl _ _ _ 166 rfl knT kiT u1y underlying166 _ mb m' _ rfl K.out e5.out _ _ _ rfl rfl c7.out _ [] (plainElem_int underlying3 (by decide)) ?_)
      | go_in)
    intro w3 J G;have P:=g.out.grown G g.out.size (fun j hj=>by cases hj;exact a8);clear G R c1;go_wp2;go_roundw
    case rel =>
     refine⟨d+1,m'+1,_,by omega,by have:=a5.out;omega,by go_num,fun j hj=>?_,J,I.out.put o _,P⟩
     rcases Nat.lt_succ_iff_lt_or_eq.1 hj with U|U
     ·exact b1.out j U
     subst U;rw[<- b5.out];exact o
    simp[intOf];omega
   have g5:d=n:=by omega
   subst g5;have f1:¬ ((d:Int)<(d:Int)):=by omega
   go_wp2;go_roundw
   case rel =>
    refine⟨q+1,m',D',by omega,by have:=a5.out;omega,by go_num,fun l hl=>?_,K.out,I.out,g.out⟩
    rcases Nat.lt_succ_iff_lt_or_eq.1 hl with U|U
    ·exact d4.out l U
    subst U;exact⟨hL,b1.out⟩
   simp[intOf];omega
  have e7:((L q:Int)==(n:Int))=false:=by simp;omega
  go_wp2;go_ret2;exact⟨g.out,.inl ⟨fun h=>hL (h.2 q b6).1,rfl⟩⟩
 have f8:q=n:=by omega
 subst f8;have f1:¬ ((q:Int)<(q:Int)):=by omega
 have d0:Sq k.1 q L X:=d4.out;have S:=qh d0;clear d0;by_cases f0:60<q
 ·have b8:(60:Int)<(q:Int):=by omega
  go_wp2;go_ret2;exact⟨g.out,.inr (.inl ⟨f0,HK.out,S.out,rfl⟩)⟩
 have b8:decide ((60:Int)<(q:Int))=false:=by simp;omega
 obtain⟨M,b4⟩:∃ M:Nat->Nat->RK k,M=fun i j=>wval k (X i j):=⟨_,rfl⟩;have hM:MatIs 0 q X M:=by rw[b4];exact S.out.mat
 have d6:=qh b4;clear b4;obtain⟨sb,W⟩:=exq (wr.heap.size);have e4:SumB (wr.alloc (.cells #[.int .i64 k.1,.int .i64 0] 149)) sb k.1 0:=by rw[W];exact heap_alloc_new wr _
 have b3:Below w.heap.size w (wr.alloc (.cells #[.int .i64 k.1,.int .i64 0] 149)):=g.out.alloc g.out.size _;have d2:w.heap.size<=sb:=by rw[W];exact g.out.size
 have d8:Mt (some sb) (wr.alloc (.cells #[.int .i64 k.1,.int .i64 0] 149)) (.slice a q f5) q (fun _=>q) X :=
  (((d1.out.congr (L':=fun _=>q) (fun i hi=>(S.out i hi).1) (fun _ _ _ _=>rfl)).far (k:=sb) (by rw[W];exact g.out.size)).kept (z0b g.out _)).kept (World.grownBy_alloc _ _ _)
 have e8:TabB w.heap.size (wr.alloc (.cells #[.int .i64 k.1,.int .i64 0] 149)):=(TabB.of HT.out).kept (z:=none) (z0b b3 none) (by simp) nlr;have HM:=qh hM;clear hM;have f2:=qh e4;clear e4;have g1:=qh b3;clear b3;have d5:=qh d8;clear d8 d1;have f7:=qh e8;clear e8
 go_wp2_with fail
 rw[<- W];refine(y5w (F:=FitM q M) (by omega) d5.out HM.out f2.out ⟨.inl rfl,fun _=>rfl⟩ (fun f=>f) f7.out d2).mono ?_;rintro r w2 ⟨v2,e2,Y,rfl,hY,g4,d7,_,b7,e6⟩;have e1:=b7.c1;have E:Below w.heap.size w w2:=g1.out.grown e6 (by simp;have:=g.out.size;omega) (fun j hj=>by cases hj;exact d2);have b9:=qh E;clear E;clear e6 b7 W
 rcases d7.1 with rfl|rfl
 ·go_wp2;go_ret2;exact⟨b9.out,.inr (.inr ⟨by omega,k,M,rfl,S.out,d6.out,HM.out,.inl ⟨_,Y,rfl,hY.any,g4⟩⟩)⟩
 have f9:¬ FitM q M:=fun f=>by have:=d7.2 f;omega
 go_wp2_with fail
 go_quiet (fail)
 go_wp2;go_ret2;exact⟨below_drewN b9.out nq,.inr (.inr ⟨by omega,k,M,rfl,S.out,d6.out,HM.out,.inr ⟨rfl,f9⟩⟩)⟩
end
section
open Go.RowKit Go.Deep
end
end Go.Proofs.YteappjogmnogcaaGreatDoor
