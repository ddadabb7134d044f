/- Parts. -/
import Derived.Test.YteappjogmnogcaaGreatDoorZ28
import Derived.Test.YteappjogmnogcaaGreatDoorZ25
namespace Go.Proofs.YteappjogmnogcaaGreatDoor
set_option maxRecDepth 100000
set_option linter.all false
set_option maxHeartbeats 16000000
open Go Tryz
section
open CSR
variable{D:MD}
section
variable{D:MD}(hV:VM D){k:KK}(hk:k.1=D.kind)
include hV hk
end
def EqS(n:Nat)(S S':Nat->Nat->ByteArray):Prop:=∀q p,q<n->p<n->S q p=S' q p
theorem PQ{k:Int}{n:Nat}{S S':Nat->Nat->ByteArray}(h:EqS n S S'){v:Nat->ByteArray}{q:Nat}(hq:q<n):∀(p:Nat) (s:WS),p<=n->rstP k S v q p s=rstP k S' v q p s
 |0,_,_=>rfl
 |p+1,s,hp=>by unfold rstP;rw[PQ h hq p s (by omega),h q p hq (by omega)]
theorem PR{k:Int}{n:Nat}{S S':Nat->Nat->ByteArray}(h:EqS n S S'){v:Nat->ByteArray}:∀(q:Nat) (s:WS),q<=n->rstQ k S v n q s=rstQ k S' v n q s
 |0,_,_=>rfl
 |q+1,s,hq=>by unfold rstQ;rw[PR h q s (by omega),PQ h (by omega) n _ nlr]
theorem XU{k:Int}{n:Nat}{S S':Nat->Nat->ByteArray}(h:EqS n S S')(v:Nat->ByteArray)(e:Nat):Cy k n (some S) v e=Cy k n (some S') v e:=by
 show (if e≠0 then (v,e) else rstQ k S v n n (Ax,e))=if e≠0 then (v,e) else rstQ k S' v n n (Ax,e)
 rw[PR h n _ nlr]
theorem Ti{S S':Nat->Nat->ByteArray}(h:EqS D.n S S')(na:Nat)(x:Nat->Int)(nb:Nat)(y:Nat->Int)(i j:Nat)(s:RS):DY D (some S) na x nb y i j s=DY D (some S') na x nb y i j s:=by
 unfold DY
 split
 ·rfl
 simp only[XU h]
theorem MG{D:MD}{S S':Nat->Nat->ByteArray}(h:EqS D.n S S')(na:Nat)(x:Nat->Int)(nb:Nat)(y:Nat->Int)(i:Nat):∀(j:Nat) (s:RS),colG D (some S) na x nb y i j s=colG D (some S') na x nb y i j s
 |0,_=>rfl
 |j+1,s=>by unfold colG;rw[MG h na x nb y i j s,Ti h]
theorem OL{D:MD}{S S':Nat->Nat->ByteArray}(h:EqS D.n S S')(na:Nat)(x:Nat->Int)(nb:Nat)(y:Nat->Int):∀(m i:Nat) (row:Nat->Option VV) (e:Nat),outG D (some S) na x nb y m i row e=outG D (some S') na x nb y m i row e
 |0,_,_,_=>rfl
 |m+1,i,row,e=>by unfold outG;simp only[MG h,OL h]
theorem Rw{S S':Nat->Nat->ByteArray}(h:EqS D.n S S')(c na:Nat)(x:Nat->Int)(nb:Nat)(y:Nat->Int):wgtG D (some S) c na x nb y=wgtG D (some S') c na x nb y:=OL h na x nb y _ _ _ _
def Li(k:KK)(D:MD)(sel:Int->Int->Bool)(q p:Nat):ByteArray:=vtxt (starM (λi j=>wval k (smat D sel i j)) D.n q p).1
theorem SilOk.closed{k:KK}(B:VM D)(g:k.1=D.kind)(hn:D.n<=60)(m:serr D silB D.n=0)(hf:FitM D.n (λi j=>wval k (smat D silB i j))){st:StarO}{e:Nat}(h:SilOk D silB st e){na:Nat}{x:Nat->Int}{nb:Nat}{y:Nat->Int}:
  wgtG D st e na x nb y=wgtG D none 0 na x nb y/\NoSel D silB\/wgtG D st e na x nb y=wgtG D (some (Li k D silB)) 0 na x nb y/\¬NoSel D silB:=by
 have d:e=0:=h.fit hn m (λE l=>by
  have u:E=k:=Subtype.ext<|l.trans g.symm;subst u;exact hf)
 rcases h with⟨c,rfl,_⟩|⟨c,_,_,S,rfl,z⟩|⟨_,c,_⟩
 ·subst d;exact .inl ⟨rfl,c⟩
 ·subst d;refine .inr ⟨Rw (λq p s o=>?_) 0 na x nb y,c⟩;have A:=z k g q p s o;rw[A.1];unfold Li
  congr 2
  exact starM_congr (λi j hi C=>((Lg B g m hi C).val).symm) q p s o
 exact absurd d c
end
section
open Go.RowKit Go.Deep
variable{n q:Nat}{w:World}{s:Int}{c d g i j:Nat->Int}{z:Option Nat}{v:Value}
def mpO(pi po:Nat->Int):Nat->Int->Option Int
 |0,_=>none
 |q+1,s=>match mpO pi po q s with|some t=>some t|none=>if pi q=s then some (po q) else none
def mapF(n:Nat)(pi po:Nat->Int)(s:Int):Int:=(mpO pi po n s).getD s
def RenOk(n:Nat)(pi po:Nat->Int):Prop:=∀i,i<n->1<=pi i/\pi i<=500/\0<=po i/\po i<=500
theorem Om{pi po:Nat->Int}{s t:Int}:∀{q},mpO pi po q s=some t->∃i,i<q/\pi i=s/\po i=t
 |0,h=>by cases h
 |q+1,h=>by
  unfold mpO at h;cases e:mpO pi po q s with
  |some t' =>
   rw[e]at h;obtain⟨i,h1,h2,h3⟩:=Om e;exact⟨i,by omega,h2,by rw[h3];simpa using h⟩
  |none =>
   rw[e]at h;by_cases hp:pi q=s
   ·simp only[hp,if_true,Option.some.injEq]at h;exact⟨q,by omega,hp,h⟩
   simp[hp]at h
def Hw(h:RenOk n c d)(j:0<=s)(m:s<=500):0<=mapF n c d s/\mapF n c d s<=500:=by
 unfold mapF;cases e:mpO c d n s with
 |some t =>
  obtain⟨i,g,k,l⟩:=Om e;have:=h i g;simp only[Option.getD_some];omega
 |none=>simp only[Option.getD_none];omega
theorem VM.ren{D:MD}(h:VM D)(c:RenOk n d g):VM (D.ren (mapF n d g)) :=
 h.sym (φ:=λi o=>(mapF n d g i,mapF n d g o)) λi o j k l m=>⟨(Hw c j k).1,(Hw c j k).2,(Hw c l m).1,(Hw c l m).2⟩
def PrS(z:Option Nat)(w:World)(v:Value)(n:Nat)(pi po:Nat->Int):Prop :=
 (n=0/\∃a cap,v=.slice a 0 cap/\cap<=maxLen)\/∃b off cap,v=.slice (some (Ad b off)) n cap/\(b<w.heap.size/\some b≠z)/\n<=cap/\cap<=maxLen/\∀i,i<n->w.cell? (Ad b (off+i*2))=some (.int .i64 (pi i))/\w.cell? (Ad b (off+i*2+1))=some (.int .i64 (po i))
def PrS.kept{o:World}{l m:Nat->Int}(h:PrS z w v n l m)(g:w.grownBy o z):PrS z o v n l m:=by
 rcases h with h|⟨b,j,d,u,c,p,s,k⟩
 ·exact .inl h
 exact .inr ⟨b,j,d,u,⟨Nat.lt_of_lt_of_le c.1 g.size,c.2⟩,p,s,λi hi=>⟨g.cell (k i hi).1 c.2,g.cell (k i hi).2 c.2⟩⟩
def PrS.open(h:PrS z w v n c d):∃a cap b off,v=.slice a n cap/\(0<n->a=some (Ad b off))/\n<=cap/\cap<=maxLen/\(0<n->b<w.heap.size/\some b≠z)/\∀i,i<n->w.cell? (Ad b (off+i*2))=some (.int .i64 (c i))/\w.cell? (Ad b (off+i*2+1))=some (.int .i64 (d i)):=by
 rcases h with⟨g,a,cap,rfl,o⟩|⟨b,off,cap,rfl,j,k,l,m⟩
 ·exact⟨a,cap,0,0,by rw[g],by omega,by omega,o,by omega,λi hi=>by omega⟩
 exact⟨_,cap,b,off,rfl,λ_=>rfl,k,l,λ_=>j,m⟩
def MpM(w:World)(pb q:Nat)(pi po:Nat->Int):Prop:=∃D:DataW Unit,w.ownsMap prog 3 (plainElem prog 3) pb q D/\Maps.IsMap D/\∀s z:Int,D.atKey (.int .i64 s) (.lit (.int .i64 z))=.lit (.int .i64 ((mpO pi po q s).getD z))
def NM:Maps.Keyed prog 3:=Maps.int_keyed underlying3
def keyM(c:0<=s)(d:s<=500):keyOf prog 3 (.int .i64 s)=some (.int .i64 s):=Maps.keyOf_int_mk underlying3 (by simp[Lit.wf,IntKind.min,IntKind.max,IntKind.signed,IntKind.bits];omega)
def z1w(w:World):(zeroValue 3).run prog w=.ok (.int .i64 0) w:=by kernel_rfl
def Xn(c:0<=s)(d:s<=500):plainElem (H:=Unit) prog 3 (.int .i64 s)=some (.lit (.int .i64 s),[]):=plainElem_int underlying3 (by simp[Lit.wf,IntKind.min,IntKind.max,IntKind.signed,IntKind.bits];omega)
def MpM.made(w:World)(c d:Nat->Int):MpM (w.alloc (.map #[] 0)) w.heap.size 0 c d:=⟨.map [],World.ownsMap_made w _ _ _,⟨[],rfl⟩,λ_ _=>rfl⟩
def MpM.kept{j:World}{d:Nat}{C:Nat->Prop}(h:MpM w d q g i)(hf:Fr C w j)(p:¬C d):MpM j d q g i:=by
 obtain⟨D,⟨k,c,hb,l⟩,m,o⟩:=h;exact⟨D,⟨k,c,(hf.block d (Array.getElem?_eq_some_iff.1 hb).1 p).trans hb,l⟩,m,o⟩
def MpM.block{i:Nat}{k:Nat->Int}(h:MpM w i q j k){b:Nat}{c:Array Value}{t:TypeId}{f:Nat × Nat}(hb:w.heap[b]?=some (.cells c t f)):b≠i:=by
 obtain⟨D,⟨l,d,g,_⟩,_⟩:=h;rintro rfl;rw[hb]at g;cases g
def MpM.look{u:Nat}(h:MpM w u q i j)(z:0<=s)(A:s<=500):
  (Instr.lookup 91 (.map (some u)) (.int .i64 s) true).run prog w=.ok (.tuple #[.int .i64 ((mpO i j q s).getD 0),.bool (mpO i j q s).isSome]) w:=by
 obtain⟨D,⟨E,k,hb,F,G,rfl⟩,_,l⟩:=h
 rcases Maps.fit_look true NM underlying91 (z1w w) hb F (keyM z A) with⟨d,_,g⟩|⟨C,y,_,_,d,m,g,_⟩
 ·have o:mpO i j q s=none:=by
   cases e:mpO i j q s with
   |none=>rfl
   |some t =>
    have a:=(g (.lit (.int .i64 (t+1)))).symm.trans (l s (t+1));rw[e]at a;simp only[Option.getD_some,DataW.lit.injEq,Lit.int.injEq,true_and]at a;omega
  rw[d,o];rfl
 obtain⟨c,B,p,_⟩:=plainElem_int_inv underlying3 m;have o:mpO i j q s=some c:=by
  cases e:mpO i j q s with
  |none =>
   have a:=(g (.lit (.int .i64 (c+1)))).symm.trans (l s (c+1));rw[e,p]at a;simp only[Option.getD_none,DataW.lit.injEq,Lit.int.injEq,true_and]at a;omega
  |some t =>
   have a:=(g (.lit (.int .i64 0))).symm.trans (l s 0);rw[e,p]at a;simp only[Option.getD_some,DataW.lit.injEq,Lit.int.injEq,true_and]at a;rw[a]
 rw[d,o,B];rfl
theorem MpM.put{w1:World}{j q:Nat}{c d:Nat->Int}{D:DataW Unit}(i:Maps.IsMap D)(l:∀s z:Int,D.atKey (.int .i64 s) (.lit (.int .i64 z))=.lit (.int .i64 ((mpO c d q s).getD z)))(g:mpO c d q (c q)=none)
  (k:w1.ownsMap prog 3 (plainElem prog 3) j (q+1) (D.put (.int .i64 (c q)) (.lit (.int .i64 (d q))))):MpM w1 j (q+1) c d:=by
 refine⟨_,k,i.put _ _,λs z=>?_⟩;by_cases e:s=c q
 ·subst e;rw[Maps.atKey_put_same i (by trivial)];show _=DataW.lit (.int .i64 ((mpO c d (q+1) (c q)).getD z));unfold mpO;rw[g];simp
 rw[Maps.atKey_put_other (λh=>e (by simpa using h)),l s];show _=DataW.lit (.int .i64 ((mpO c d (q+1) s).getD z))
 conv=>rhs;unfold mpO
 cases m:mpO c d q s with
 |some t=>rfl
 |none=>simp[show ¬c q=s from λh=>e h.symm]
theorem MpM.same{w1:World}{i:Nat}(h:MpM w1 i q c g)(d:(mpO c g q (c q)).isSome=true):MpM w1 i (q+1) c g:=by
 obtain⟨D,k,l,m⟩:=h;refine⟨D,k.mono (by omega),l,λs z=>?_⟩;rw[m s z];show _=DataW.lit (.int .i64 ((mpO c g (q+1) s).getD z))
 conv=>rhs;unfold mpO
 cases j:mpO c g q s with
 |some t=>rfl
 |none =>
  have:¬c q=s:=λh=>by rw[h,j]at d;cases d
  simp[this]
def R1P(ob pb n:Nat)(pi po:Nat->Int)(w:World):Prop:=w.heap[ob]?=some (.cells #[.map (some pb)] 91 (0,0))/\MpM w pb n pi po
theorem R1P.kept{c d n:Nat}{g i:Nat->Int}{w j:World}{C:Nat->Prop}(h:R1P c d n g i w)(hf:Fr C w j)(k:¬C c)(l:¬C d):R1P c d n g i j:=⟨(hf.block c (lbk h.1) k).trans h.1,h.2.kept hf l⟩
def PF{j k:Nat}(w:World)(h:R1P j k n g i w)(s:Int)(l:0<=s)(m:s<=500):
  Calls prog 70 #[.int .i64 s,.pointer (some (Ad j 0))] w (λr w'=>r=.returned (.int .i64 (mapF n g i s))/\w'=w):=by
 have c0:w.cell? (Ad j 0)=some (.map (some k)):=by simp[World.cell?,h.1]
 have c:=h.2.look l m;have d:mapF n g i s=(mpO g i n s).getD s:=rfl;rw[d];clear h d;cases e:mpO g i n s with
 |some t =>
  rw[e]at c;simp only[Option.getD_some,Option.isSome_some]at c ⊢;clear e
  go_enter func70,ntmps70
  go_wp2;go_ret;exact⟨rfl,rfl⟩
 |none =>
  rw[e]at c;simp only[Option.getD_none,Option.isSome_none]at c ⊢;clear e
  go_enter func70,ntmps70
  go_wp2;go_ret;exact⟨rfl,rfl⟩
def R2P(fb ob pb n:Nat)(pi po:Nat->Int)(w:World):Prop:=w.heap[fb]?=some (.cells #[.func (.func 70) #[] #[.pointer (some (Ad ob 0))]] 93 (0,0))/\R1P ob pb n pi po w
theorem R2P.kept{c d g n:Nat}{i j:Nat->Int}{w k:World}{C:Nat->Prop}(h:R2P c d g n i j w)(hf:Fr C w k)(l:¬C d)(m:¬C g)(o:¬C c):R2P c d g n i j k:=⟨(hf.block c (lbk h.1) o).trans h.1,h.2.kept hf l m⟩
def UG:∀args w,(callFunc 71 args).run prog w=.ok (.enter 71 args) w:=λargs w=>by kernel_rfl
def Yp{z B I n:Nat}{s u:Nat->Int}(w:World)(h:R2P z B I n s u w)(i o:Int)(C:0<=i)(D:i<=500)(k0:0<=o)(E:o<=500):
  Calls prog 71 #[.int .i64 i,.int .i64 o,.pointer (some (Ad z 0))] w (λr w'=>r=.returned (.tuple #[.int .i64 (mapF n s u i),.int .i64 (mapF n s u o)])/\Below w.heap.size w w'):=by
 obtain⟨p,m⟩:=exq<|w.drew;have hf:Fr (λ_=>False) w p:=by rw[m];exact(Fr.refl _ _).drew
 have A:=h.kept hf (λe=>e) (λe=>e) (λe=>e);have c:p.cell? (Ad z 0)=some (.func (.func 70) #[] #[.pointer (some (Ad B 0))]):=by simp[World.cell?,A.1]
 have g:=qh<|PF p A.2 i C D;have j:=qh<|PF p A.2 o k0 E;have H:=qh<|hf.below nlr (λ_ e=>e.elim);clear hf A h C D k0 E;obtain⟨F,k⟩:=exq<|mapF n s u i;obtain⟨G,l⟩:=exq<|mapF n s u o;rw[<-k,<-l];rw[<-k]at g;rw[<-l]at j;clear k l
 go_enter func71,ntmps71
 go_wp2_with fail
 refine Au (λJ=>J.cell? (Ad z 0)=some (.func (.func 70) #[] #[.pointer (some (Ad B 0))])) 7 (by kernel_rfl) ?_;rw[<-m];clear m;refine Aa.tm 0 c ?_;refine Aa.tm 1 c ?_;refine Aa.tm 3 c ?_;refine Aa.tm 4 c ?_
 try simp only[Act.put,tryL]
 refine Aa.on 2 λK d=>?_;go_simp;refine g.o.mono ?_;rintro r L⟨rfl,rfl⟩;refine d.out _ _ (.inr c) ?_;clear d K g
 try simp only[Act.put,tryL]
 refine Aa.on 5 λK d=>?_;go_simp;refine j.o.mono ?_;rintro r N⟨rfl,rfl⟩;refine d.out _ _ (.inr c) ?_;clear d K j
 try simp only[Act.put,tryL]
 refine Aa.on 6 λK d=>?_;go_simp;refine d.out _ _ (.inr c) ?_;clear d K
 try simp only[Act.put,tryL]
 refine Aa.on 7 λK d=>?_;go_simp;refine d.out _ _ (.inl rfl) (Aa.dn ?_);clear d K;go_wp2;go_ret2;exact⟨rfl,H.o⟩
def Yq(j s u n:Nat)(d g:Nat->Int):SymF 71 #[.pointer (some (Ad j 0))] (λi o=>(mapF n d g i,mapF n d g o)) (R2P j s u n d g) :=
 ⟨UG,λw h i o k l m p=>by
  rw[show ∀a b c:Value,(#[a,b]++#[c]:Array Value)=#[a,b,c] from λ_ _ _=>rfl];exact Yp w h i o k l m p⟩
structure RnI(w0 wr:World)(mb rb ob pb n q:Nat)(mc:Array Value)(pi po:Nat->Int):Prop where
 kb:wr.heap[mb]?=some (.cells mc 24 (0,0))
 kr:wr.heap[rb]?=some (.cells #[.int .i64 0,.int .i64 0,.string ⟨#[]⟩,.slice none 0 0] 24 (0,0))
 rp:R1P ob pb q pi po wr
 be:Below w0.heap.size w0 wr
 lr:w0.heap.size<=rb
 lo:w0.heap.size<=ob
 lp:w0.heap.size<=pb
def RnI.new{m w l:World}{c rb g i n q:Nat}{d:Array Value}{j k:Nat->Int}(h:RnI m w c rb g i n q d j k)(hf:Fr (λ_=>False) w l):RnI m l c rb g i n q d j k :=
 ⟨(hf.block c (lbk h.kb) (λe=>e)).trans h.kb,(hf.block rb (lbk h.kr) (λe=>e)).trans h.kr,h.rp.kept hf (λe=>e) (λe=>e),h.be.trans (hf.below h.be.size (λ_ e=>e.elim)),h.lr,h.lo,h.lp⟩
def Gu{D:MD}{mv lv:Value}{n:Nat}{u z:Nat->Int}(w:World)(hM:Ma none w mv D)(c7:MSz D)(hL:PrS none w lv n u z)(hn:n<=1000)(ht:Tab w):
  Calls prog 32 #[mv,lv] w (MkE (VM D/\RenOk n u z) (D.ren (mapF n u z)) 1 w):=by
 obtain⟨sv,rfl,hS⟩:=hM;obtain⟨a,cp,_,_,_,_,_,_,g1,_⟩:=hS.open;subst g1;obtain⟨al,cl,bl,ol,i8,d7,i7,g5,b3,H⟩:=hL.open;subst i8;obtain⟨w1,X⟩:=exq<|w.alloc (.cells #[.int .i64 D.kind,.int .i64 D.start,.string D.lead,.slice a D.n cp] 24);obtain⟨w2,a7⟩:=exq<|w1.alloc (.cells #[.int .i64 0,.int .i64 0,.string ⟨#[]⟩,.slice none 0 0] 24);have i2:w1.heap.size=w.heap.size+1:=by rw[X];simp
 have g7:Fr (λ_=>False) w w1:=by rw[X];exact Fr.alloc _ _
 have e2:Fr (λ_=>False) w1 w2:=by rw[a7];exact Fr.alloc _ _
 obtain⟨mb,b8⟩:=exq<|w.heap.size;obtain⟨C,g0⟩:=exq<|w.heap.size+1;obtain⟨mc,b9⟩:∃mc:Array Value,mc=#[.int .i64 D.kind,.int .i64 D.start,.string D.lead,.slice a D.n cp]:=⟨_,rfl⟩;have e5:w1.heap[mb]?=some (.cells #[.int .i64 D.kind,.int .i64 D.start,.string D.lead,.slice a D.n cp] 24 (0,0)):=by rw[X,b8];exact han w _
 have e7:w2.heap[mb]?=some (.cells #[.int .i64 D.kind,.int .i64 D.start,.string D.lead,.slice a D.n cp] 24 (0,0)):=(e2.block _ (lbk e5) (λe=>e)).trans e5;have h8:w2.heap[C]?=some (.cells #[.int .i64 0,.int .i64 0,.string ⟨#[]⟩,.slice none 0 0] 24 (0,0)):=by rw[g0,<-i2,a7];exact han w1 _
 have b1:Below w.heap.size w w2:=(g7.trans e2).below nlr (λ_ e=>e.elim);have P:w.heap.size<=C:=by omega
 have j8:mb≠C:=by omega
 obtain⟨⟨m0,m1,m2,m3⟩,_⟩:=cells4 e7;have g4:=qh<|Ds w2 (⟨_,rfl,hS.kept (Ab b1 none)⟩:Ma none w2 (.agg #[.int .i64 D.kind,.int .i64 D.start,.string D.lead,.slice a D.n cp]) D) c7 (ht.below b1 nlr);replace hS:=qh hS;replace c7:=qh c7;replace ht:=qh ht;replace d7:=qh d7;replace b3:=qh b3;replace H:=qh H;clear hL;have N:=qh h8;clear h8;have d1:=qh e7;clear e7 e5;have d0:=qh b1;clear b1 g7 e2 i2;clear i7 g5;have j7:=@run_makeMap prog;rw[a7,X]at m0 m1 m2 m3;rw[b8]at m0 m1 m2 m3
 go_enter func32,ntmps32
 go_wp2_with fail
 rw[<-X,<-a7,<-g0,<-b8];clear m0 m1 m2 m3 X a7 g0 b8;refine g4.o.mono ?_;rintro r w4⟨b2,hr⟩;have h2:=(b2.block _ (lbk d1.o)).trans d1.o;have a2:=(b2.block _ (lbk N.o)).trans N.o;have W:=qh<|d0.o.trans (b2.mono d0.o.size);clear b2 d1 N g4 d0;have b0:=qh h2;clear h2;have G:=qh a2;clear a2
 rcases hr with⟨hv,rfl⟩|⟨hv,rfl⟩
 rotate_left
 ·have HV:=qh hv;clear hv;obtain⟨⟨r0,r1,r2,r3⟩,L⟩:=cells4 G.o;have f0:=L 0;have f1:=L 1;have f2:=L 2;have f3:=L 3;clear L
  go_wp2_with fail
  exact bodyPost_ret (AH rfl _ (b:=C) rfl rfl (AG w4 C _ _ _ _ G.o)) rfl ⟨AF W.o P _ _ _ _,.inr ⟨λh=>HV.o h.1,rfl⟩⟩
 have HV:=qh hv;clear hv;obtain⟨Z,f5⟩:=exq<|w4.heap.size;obtain⟨w5,a8⟩:=exq<|w4.alloc (.map #[] 0);obtain⟨w6,c8⟩:=exq<|w5.alloc (.cells #[.map (some Z)] 91);have i3:w5.heap.size=w4.heap.size+1:=by rw[a8];simp
 obtain⟨ob,f4⟩:=exq<|w4.heap.size+1;have g8:Fr (λ_=>False) w4 w5:=by rw[a8];exact Fr.alloc _ _
 have e3:Fr (λ_=>False) w5 w6:=by rw[c8];exact Fr.alloc _ _
 have c9:MpM w5 Z 0 u z:=by rw[a8,f5];exact MpM.made w4 u z
 have h4:w6.heap[ob]?=some (.cells #[.map (some Z)] 91 (0,0)):=by rw[f4,<-i3,c8];exact han w5 _
 have a5:RnI w w6 mb C ob Z n 0 mc u z:=by
  have d4:=g8.trans e3;rw[<-b9]at b0;exact⟨(d4.block mb (lbk b0.o) (λe=>e)).trans b0.o,(d4.block C (lbk G.o) (λe=>e)).trans G.o,⟨h4,c9.kept e3 (λe=>e)⟩,W.o.trans (d4.below W.o.size (λ_ e=>e.elim)),P,by have:=W.o.size;omega,by have:=W.o.size;omega⟩
 have J:=qh a5;clear a5 h4 c9 g8 e3 i3 b0 G W
 go_wp2_with fail
 rw[<-f4,<-f5,<-a8,<-c8];clear f5 a8 c8 f4;replace b9:=qh b9
 go_loopw [19] (λg2 j0=>∃q:Nat,q<=n/\g2=.int .i64 (q:Int)/\(∀j,j<q->1<=u j/\u j<=500/\0<=z j/\z j<=500)/\RnI w j0 mb C ob Z n q mc u z) (λg2 _=>n-(intOf g2).toNat)
 case atStart=>exact⟨0,Nat.zero_le _,rfl,λj hj=>absurd hj (Nat.not_lt_zero _),J.o⟩
 obtain⟨q,hq,rfl,h9,a5⟩:=hrel;clear J;have d2:=qh h9;clear h9;have J:=qh a5;clear a5;by_cases f8:q<n
 ·have j9:(q:Int)<(n:Int):=by omega
  have j2:(0:Int)<=(q:Int):=by omega
  obtain rfl:=d7.o (by omega);have c0:=(J.o.be.cell (p:=(Ad bl (ol+q*2))) (b3.o (by omega)).1).trans (H.o q f8).1;have c1:=(J.o.be.cell (p:=(Ad bl (ol+q*2+1))) (b3.o (by omega)).1).trans (H.o q f8).2;obtain⟨I,K⟩:=exq<|u q;obtain⟨S,Y⟩:=exq<|z q;rw[<-K]at c0;rw[<-Y]at c1;replace K:=qh K;replace Y:=qh Y;obtain⟨B,l⟩:=exq<|wr.alloc (.cells #[.int .i64 I,.int .i64 S] 50);obtain⟨eb,g6⟩:=exq<|wr.heap.size;have b4:Fr (λ_=>False) wr B:=by rw[l];exact Fr.alloc _ _
  have b6:B.heap[eb]?=some (.cells #[.int .i64 I,.int .i64 S] 50 (0,0)):=by rw[l,g6];exact han wr _
  have d:=J.o.new b4;have e0:B.cell? (Ad eb 0)=some (.int .i64 I):=by simp[World.cell?,b6]
  have e1:B.cell? (Ad eb 1)=some (.int .i64 S):=by simp[World.cell?,b6]
  have o0:B.cell? (Ad ob 0)=some (.map (some Z)):=by simp[World.cell?,d.rp.1]
  obtain⟨⟨r0,r1,r2,r3⟩,L⟩:=cells4 d.kr;have f0:=L 0;have f1:=L 1;have f2:=L 2;have f3:=L 3;replace b6:=qh b6;replace d:=qh d;have E:¬(1<=I/\I<=500/\0<=S/\S<=500)->¬RenOk n u z:=λh hr=>h (by rw[K.o,Y.o];exact hr q f8);replace E:=qh E;rw[l]at e0 e1 o0 r0 r1 r2 r3 f0 f1 f2 f3;clear L;rw[g6]at e0 e1;by_cases h1:I<1
  ·have O:=qh<|E.o (by omega)
   go_wp2_with fail
   rw[<-l];exact bodyPost_ret (AH rfl _ (b:=C) rfl rfl (AG B C _ _ _ _ d.o.kr)) rfl ⟨AF d.o.be P _ _ _ _,.inr ⟨λh=>O.o h.2,rfl⟩⟩
  have j3:decide (I<1)=false:=by simp;omega
  by_cases h5:(500:Int)<I
  ·have O:=qh<|E.o (by omega);clear h1
   go_wp2_with fail
   rw[<-l];exact bodyPost_ret (AH rfl _ (b:=C) rfl rfl (AG B C _ _ _ _ d.o.kr)) rfl ⟨AF d.o.be P _ _ _ _,.inr ⟨λh=>O.o h.2,rfl⟩⟩
  have j4:decide ((500:Int)<I)=false:=by simp;omega
  by_cases h6:S<0
  ·have O:=qh<|E.o (by omega);clear h1 h5
   go_wp2_with fail
   rw[<-l];exact bodyPost_ret (AH rfl _ (b:=C) rfl rfl (AG B C _ _ _ _ d.o.kr)) rfl ⟨AF d.o.be P _ _ _ _,.inr ⟨λh=>O.o h.2,rfl⟩⟩
  have j5:decide (S<0)=false:=by simp;omega
  by_cases g:(500:Int)<S
  ·have O:=qh<|E.o (by omega);clear h1 h5 h6
   go_wp2_with fail
   rw[<-l];exact bodyPost_ret (AH rfl _ (b:=C) rfl rfl (AG B C _ _ _ _ d.o.kr)) rfl ⟨AF d.o.be P _ _ _ _,.inr ⟨λh=>O.o h.2,rfl⟩⟩
  have j6:decide ((500:Int)<S)=false:=by simp;omega
  have m:1<=I/\I<=500/\0<=S/\S<=500:=by omega
  replace m:=qh m;clear h1 h5 h6 g;clear r0 r1 r2 r3 f0 f1 f2 f3;have b7:=d.o.rp.2.look (s:=I) (by have:=m.o;omega) (by have:=m.o;omega);rw[l]at b7;have U:∀j,j<q+1->1<=u j/\u j<=500/\0<=z j/\z j<=500:=λj hj=>by
   by_cases e:j=q
   ·subst e;rw[<-K.o,<-Y.o];exact m.o
   exact d2.o j (by omega)
  replace U:=qh U;obtain⟨gd,h0⟩:∃gd,gd=(mpO u z q I).getD 0:=⟨_,rfl⟩;rw[<-h0]at b7;clear h0;cases F:(mpO u z q I).isSome
  ·rw[F]at b7;obtain⟨D1,A,d5,d6⟩:=d.o.rp.2;rw[l]at A;have HM:=qh F;clear F;have a1:=qh A;clear A;replace d5:=qh d5;replace d6:=qh d6;have a3:=keyM (s:=I) (by have:=m.o;omega) (by have:=m.o;omega);replace a3:=qh a3;have f7:=Xn (s:=S) (by have:=m.o;omega) (by have:=m.o;omega);replace f7:=qh f7;have d3:=qh l
   go_wp2_with (at_mapUpdate;refine wpList_mapUpdate_own _ rfl _ _ _ 91 rfl 3 3 NM underlying91 _ Z q D1 rfl a1.o (by unfold maxLen;omega) _ _ (.int .i64 I) rfl rfl a3.o (.lit (.int .i64 S)) [] f7.o ?_;intro w8 Q T;replace Q:=qh Q;have i5:=qh T;clear T)
   go_roundw
   case rel =>
    have g9:=i5.o;rw[<-d3.o]at g9;have b5:Fr (λk=>k=Z) B w8:=Fr.of_gb g9 (λk e=>by cases e;rfl);have g:=d.o;have e8:∀b c t f,B.heap[b]?=some (.cells c t f)->¬b=Z:=λb c t f hb e=>g.rp.2.block hb e;have e9:mpO u z q (u q)=none:=by
     have:=HM.o;rw[K.o]at this;cases e:mpO u z q (u q) with
     |none=>rfl
     |some t=>rw[e]at this;cases this
    refine⟨q+1,by omega,by go_num,U.o,⟨(b5.block mb (lbk g.kb) (e8 _ _ _ _ g.kb)).trans g.kb,(b5.block C (lbk g.kr) (e8 _ _ _ _ g.kr)).trans g.kr,⟨(b5.block ob (lbk g.rp.1) (e8 _ _ _ _ g.rp.1)).trans g.rp.1,MpM.put d5.o d6.o e9 (by rw[<-K.o,<-Y.o];exact Q.o)⟩,g.be.trans (b5.below g.be.size (λk e=>by rw[e];exact g.lp)),g.lr,g.lo,g.lp⟩⟩
   simp[intOf];omega
  rw[F]at b7;have HM:=qh F;clear F;have d3:=qh l;go_wp2;go_roundw
  case rel =>
   have g:=d.o;rw[d3.o]at g;refine⟨q+1,by omega,by go_num,U.o,⟨g.kb,g.kr,⟨g.rp.1,g.rp.2.same (by rw[<-K.o];exact HM.o)⟩,g.be,g.lr,g.lo,g.lp⟩⟩
  simp[intOf];omega
 have i9:q=n:=by omega
 have j1:¬((q:Int)<(n:Int)):=by omega
 have a4:RenOk n u z:=λi hi=>d2.o i (by omega);have a6:=J.o;rw[i9]at a6;replace a4:=qh a4;clear d2 J;obtain⟨fb,e4⟩:=exq<|wr.heap.size;obtain⟨B,l⟩:=exq<|wr.alloc (.cells #[.func (.func 70) #[] #[.pointer (some (Ad ob 0))]] 93);have b4:Fr (λ_=>False) wr B:=by rw[l];exact Fr.alloc _ _
 have h3:B.heap[fb]?=some (.cells #[.func (.func 70) #[] #[.pointer (some (Ad ob 0))]] 93 (0,0)):=by rw[l,e4];exact han wr _
 have g:=a6.new b4;have f9:R2P fb ob Z n u z B:=⟨h3,g.rp⟩;have e6:=g.kb;rw[b9.o]at e6;have d8:=ES (φ:=λi o=>(mapF n u z i,mapF n u z o)) B (⟨_,rfl,hS.o.kept (Ab g.be none)⟩:Ma none B (.agg #[.int .i64 D.kind,.int .i64 D.start,.string D.lead,.slice a D.n cp]) D) c7.o (ht.o.below g.be nlr) (Yq fb ob Z n u z) f9 (λwb hb=>f9.kept (Fr.of_below hb:Fr (λ_=>False) B wb) (λe=>e) (λe=>e) (λe=>e));rw[ZC]at d8;obtain⟨⟨m0,m1,m2,m3⟩,_⟩:=cells4 e6;rw[l]at m0 m1 m2 m3;have g3:=qh d8;clear d8;have N:=qh g.kr;have a9:=qh g.be;clear g a6 f9 h3 e6 b4
 go_wp2_with fail
 rw[<-e4,<-l];clear m0 m1 m2 m3 e4 l;refine g3.o.mono ?_;rintro r w8⟨d9,hr⟩;have a2:=(d9.block _ (lbk N.o)).trans N.o;have i4:=qh<|a9.o.trans (d9.mono a9.o.size);have i6:w.heap.size<=B.heap.size:=a9.o.size;clear d9 N g3 a9;have G:=qh a2;clear a2;obtain⟨⟨r0,r1,r2,r3⟩,L⟩:=cells4 G.o;have f0:=L 0;have f1:=L 1;have f2:=L 2;have f3:=L 3;clear L
 rcases hr with⟨_,k0,R,rfl,A⟩|⟨e9,_⟩
 rotate_left
 ·exact absurd HV.o e9
 obtain⟨sa,sc,g1,_,_⟩:=AC A.top;subst g1;have a1:=qh<|DI (A.box4 G.o (.int .i64 (D.ren (mapF n u z)).kind) (.int .i64 (D.ren (mapF n u z)).start) (.string (D.ren (mapF n u z)).lead) (.slice sa (D.ren (mapF n u z)).n sc)) i6;clear A
 go_wp2_with fail
 exact bodyPost_ret (AH rfl _ (b:=C) rfl rfl (AG w8 C _ _ _ _ G.o)) rfl ⟨AF i4.o P _ _ _ _,.inl ⟨⟨HV.o,a4.o⟩,_,R,rfl,a1.o⟩⟩
theorem Mc{D:MD}(hs:MSz D):∀q,Ac D q<=q*140737488355328
 |0=>nlr
 |q+1=>by
  have h:=Mc hs q;have h2:=hs.na q;show Ac D q+D.na q<=_;omega
def Su{D:MD}{v:Value}(w:World)(hM:Ma none w v D)(R:MSz D)(hn:D.n<=100):Calls prog 45 #[v] w (λr w'=>r=.returned (.int .i64 (Ac D D.n:Nat))/\Below w.heap.size w w'):=by
 obtain⟨sv,rfl,X⟩:=hM;obtain⟨a,l,b,W,A,C,BB,O,rfl,K,hc,hm,hb,k⟩:=X.open;unfold maxLen at hm;clear X;have u:=BoxM.new w D (.slice a D.n l);have s:=Mo w (.cells #[.int .i64 D.kind,.int .i64 D.start,.string D.lead,.slice a D.n l] 24);have I:=qh<|λq=>Mc R q;have J:=qh R.na;clear R;replace K:=qh K;replace hb:=qh hb;replace k:=qh k;have g:=qh u;clear u;have z:=qh s;clear s
 go_enter func45,ntmps45
 go_wp2_with fail
 obtain⟨wm,o⟩:=exq<|w.alloc (.cells #[.int .i64 D.kind,.int .i64 D.start,.string D.lead,.slice a D.n l] 24);obtain⟨U,E⟩:=exq<|w.heap.size;rw[<-o,<-E]at g;rw[<-o]at z;rw[<-o,<-E];clear o E
 go_loopw [3,4] (λc i wr=>∃q m:Nat,q<=D.n/\i=.int .i64 (q:Int)/\c=.int .i64 (m:Int)/\m=Ac D q/\BoxM wr U D (.slice a D.n l)/\Below w.heap.size w wr) (λ_ i _=>D.n-(intOf i).toNat)
 case atStart=>exact⟨0,0,Nat.zero_le _,rfl,rfl,rfl,g.o,z.o⟩
 obtain⟨q,m,hq,rfl,rfl,h,B,d⟩:=hrel;clear g z;have m3:=B.c3;have g:=qh B;clear B;replace d:=qh d;by_cases Q:q<D.n
 ·have a2:(q:Int)<(D.n:Int):=by omega
  have Z:(0:Int)<=(q:Int):=by omega
  obtain rfl:=K.o (by omega);have L:=(hb.o (by omega)).1;obtain⟨k1,T,k3,k4,_⟩:=k.o q Q;generalize A q=aq at T;have c1:=(d.o.cell (p:=(Ad b (W+q*2+1))) L).trans T;clear k1 T;have H:=I.o q;have P:=J.o q;have N:m<=100*140737488355328:=Nat.le_trans (Nat.le_of_eq h) (Nat.le_trans H (Nat.mul_le_mul_right _ (by omega)));clear H;have S:IntKind.i64.wrap ((m:Int)+(D.na q:Int))=(m:Int)+(D.na q:Int):=by rw[IntKind.wrap_i64];omega
  have F:m+D.na q=Ac D (q+1):=by rw[h];rfl
  have Y:(D.na q:Int)<=9223372036854775807:=by omega
  replace F:=qh F;clear h N P;go_wp2;go_roundw
  case rel=>exact⟨q+1,m+D.na q,by omega,by go_num,by go_num,F.o,g.o,d.o⟩
  simp[intOf];omega
 have G:q=D.n:=by omega
 have a1:¬((q:Int)<(D.n:Int)):=by omega
 have j:m=Ac D D.n:=by rw[h,G]
 replace j:=qh j;clear h;replace G:=qh G;go_wp2;go_ret
 first|exact⟨rfl,d.o⟩|exact⟨BK (by rw[j.o]),d.o⟩
end
end Go.Proofs.YteappjogmnogcaaGreatDoor
