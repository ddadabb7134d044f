/- Parts. -/
import Derived.Test.YteappjogmnogcaaGreatDoorZ18
import Derived.Test.YteappjogmnogcaaGreatDoorZ20
import Derived.Test.YteappjogmnogcaaGreatDoorZ19
namespace Go.Proofs.YteappjogmnogcaaGreatDoor
set_option maxRecDepth 100000
set_option linter.all false
set_option maxHeartbeats 16000000
open Go Tryz
section
open Go.RowKit Go.Deep
variable{w wr:World}{D:MD}{B c d g n q rb s:Nat}{A R:Nat->Value}{e:TypeId}
def SymF(nf:FuncId)(cap:Array Value)(φ:Int->Int->Int × Int)(P:World->Prop):Prop :=
 (∀args w,(callFunc nf args).run prog w=.ok (.enter nf args) w)/\∀w,P w->∀i o:Int,0<=i->i<=500->0<=o->o<=500->Calls prog nf (#[.int .i64 i,.int .i64 o]++cap) w (λr w'=>r=.returned (.tuple #[.int .i64 (φ i o).1,.int .i64 (φ i o).2])/\Below w.heap.size w w')
structure ApI(w wr:World)(cb rb g q:Nat)(fv:Value)(D:MD)(φ:Int->Int->Int × Int)(R A:Nat->Value):Prop where
 hb:Below w.heap.size w wr
 kc:wr.heap[cb]?=some (.cells #[fv] 69 (0,0))
 kr:wr.heap[rb]?=some (.cells #[.int .i64 D.kind,.int .i64 D.start,.string D.lead,.slice (some (Ad g 0)) D.n D.n] 24 (0,0))
 lr:w.heap.size<=rb
 top:wr.ownsRow w.heap.size 57 2 (.slice (some (Ad g 0)) D.n D.n) D.n (cat (st2 D (λi=>if i<q then R i else A i)) D.n)
 row:∀i,i<q->wr.ownsRow w.heap.size 59 4 (R i) (D.na i) (cat (arc4 (D.sym φ) i) (D.na i))
 apart:∀i j,i<q->j<q->i≠j->∀b,(R i).ownBlock=some b->(R j).ownBlock≠some b
def mixA(D:MD)(φ:Int->Int->Int × Int)(q d k:Nat):List Value:=if k<d then arc4 (D.sym φ) q k else arc4 D q k
theorem Gb(D:MD)(φ:Int->Int->Int × Int)(q d k:Nat):(mixA D φ q d k).length=4:=by unfold mixA;split<;>rfl
def Wh{φ:Int->Int->Int × Int}(g:d<n):((cat (mixA D φ q d) n).set (d*4+0) (.int .i64 (φ (D.ain q d) (D.aout q d)).1)).set (d*4+1) (.int .i64 (φ (D.ain q d) (D.aout q d)).2)=cat (mixA D φ q (d+1)) n:=by
 have h:∀k,((λk=>if k=d then (mixA D φ q d d).set 0 (.int .i64 (φ (D.ain q d) (D.aout q d)).1) else mixA D φ q d k) k).length=4:=λk=>by
  dsimp only;split
  ·rw[List.length_set,Gb]
  exact Gb _ _ _ _ _
 rw[DX (Gb D φ q d) (by omega) _ g,DX h (by omega) _ g];refine BH λk i=>?_;by_cases e:k=d
 ·subst e;simp only[if_pos];unfold mixA;rw[ifn (Nat.lt_irrefl _),ifp (Nat.lt_succ_self _)];rfl
 simp only[ifn e];unfold mixA;by_cases c:k<d
 ·rw[ifp c,ifp (by omega)]
 rw[ifn c,ifn (by omega)]
theorem We{φ:Int->Int->Int × Int}:cat (mixA D φ q n) n=cat (arc4 (D.sym φ) q) n:=BH λk c=>by unfold mixA;rw[ifp c]
theorem Wg{φ:Int->Int->Int × Int}:cat (mixA D φ q 0) n=cat (arc4 D q) n:=BH λk c=>by unfold mixA;rw[ifn (by omega)]
theorem GZ{c:Nat->List Value}(h:∀i,∀v ∈ c i,v.oneCell'=true):∀n,∀v ∈ cat c n,v.oneCell'=true
 |0,v,hv=>by simp[cat]at hv
 |n+1,v,hv=>by
  rw[Dn]at hv
  rcases List.mem_append.1 hv with hv|hv
  ·exact GZ h n v hv
  exact h n v hv
def Jm{c:Nat->List Value}(u:0<s)(p:∀i,(c i).length=s){b:Nat}(h:∀i j,i<n->j<s->∀v,(c i)[j]?=some v->w.cell? (Ad b (d+i*s+j))=some v):
  ∀j v,(cat c n)[j]?=some v->w.cell? (((Ad b d):Addr).add j)=some v:=by
 intro j v z;rw[Addr.add_lit];have A:j<n*s:=by have:=(List.getElem?_eq_some_iff.1 z).1;rw[Cf p]at this;exact this
 have g:j % s<s:=Nat.mod_lt _ u;have k:j / s<n:=(Nat.div_lt_iff_lt_mul u).2 A;have l:j / s*s+j % s=j:=by rw[Nat.mul_comm];exact Nat.div_add_mod j s
 have m:=Cv p g k;rw[l,z]at m;have o:=h (j / s) (j % s) k g v m.symm;rw[Nat.add_assoc,l]at o;exact o
def OP{c:Array Value}(i:w.heap[g]?=some (.cells c e (0,0)))(h:B<=g)(j:n<=maxLen)(cs:List Value)(d:cs.length=n*s):
  (w.setRow g cs.toArray).ownsRow B e s (.slice (some (Ad g 0)) n n) n cs :=
 ⟨d,.inr ⟨g,n,cs.toArray,rfl,h,setRow_heap w g c _ e _ i,nlr,j,by simp[d],by
  show cs.toArray.toList.take (n*s)=cs;rw[<-d];simp⟩⟩
def Ys{cap:Nat}{xs:List Value}(h:w.ownsRow B e s (.slice (some (Ad g 0)) n cap) n xs):∃cs,w.heap[g]?=some (.cells cs e (0,0)):=by
 rcases h.2 with⟨i,_⟩|⟨k,j,c,i,_,d,_⟩
 ·cases i
 cases i;exact⟨c,d⟩
def Ny{c:World}(h:Fr (λx=>x=g) w c):w.grownBy c (some g):=(h.mono (C':=λq=>some g=some q) (λq _ e=>by rw[e])).gb
def ApI.mid{j:World}{k:Nat}{fv:Value}{φ:Int->Int->Int × Int}(h:ApI w j k rb g q fv D φ R A)(c:Fr (λx=>x=d) j wr)(o:j.heap.size<=d)(m:w.heap.size<=d):ApI w wr k rb g q fv D φ R A:=by
 have l:∀b,b<j.heap.size->some d≠some b:=λb hb e=>by injection e;omega
 refine⟨h.hb.trans (c.below h.hb.size (λx e=>by rw[e];exact m)),?_,?_,h.lr,?_,λi hi=>?_,h.apart⟩
 ·exact(c.block _ (lbk h.kc) (by have:=lbk h.kc;omega)).trans h.kc
 ·exact(c.block _ (lbk h.kr) (by have:=lbk h.kr;omega)).trans h.kr
 ·exact Bn h.top (Ny c) (λb hb=>l b (World.ownsRow.lt h.top b hb).2)
 exact Bn (h.row i hi) (Ny c) (λb hb=>l b (World.ownsRow.lt (h.row i hi) b hb).2)
def ApI.next{C:Nat}{fv:Value}{φ:Int->Int->Int × Int}(h:ApI w wr C rb g q fv D φ R A)(L:q<D.n)
  (s:∀i,i<q->(R i).ownBlock≠some c) (m:wr.ownsRow w.heap.size 59 4 (.slice (some (Ad c 0)) (D.na q) (D.na q)) (D.na q) (cat (arc4 (D.sym φ) q) (D.na q))) :
  ApI w (wr.setCell (Ad g (q*2+1)) (.slice (some (Ad c 0)) (D.na q) (D.na q))) C rb g (q+1) fv D φ (λi=>if i=q then .slice (some (Ad c 0)) (D.na q) (D.na q) else R i) A:=by
 have F:=World.ownsRow.lt h.top g rfl;obtain⟨N,z⟩:=Ys h.top;have E:C≠g:=λe=>by
  have:=h.kc;rw[e,z]at this;simp at this
 have H:rb≠g:=λe=>by
  have:=h.kr;rw[e,z]at this;simp at this
 have o:∀{v:Value} {n:Nat} {I:List Value},wr.ownsRow w.heap.size 59 4 v n I->v.ownBlock≠some g:=λ{v n I} B=>PH h.top B (by decide) rfl;have O:∀i,i<q+1->((λi=>if i=q then Value.slice (some (Ad c 0)) (D.na q) (D.na q) else R i) i).ownBlock≠some g:=λi hi=>by
  dsimp only
  split
  ·exact o m
  exact o<|h.row i (by omega)
 refine⟨h.hb.setCell (p:=(Ad g (q*2+1))) F.1 _,?_,?_,h.lr,?_,λi hi=>?_,λi j hi P G b hb=>?_⟩
 ·rw[Ar E];exact h.kc
 ·rw[Ar H];exact h.kr
 ·have B:=EG h.top (q*2+1) (.slice (some (Ad c 0)) (D.na q) (D.na q));rw[DX (CP D _) (by omega) _ L]at B;rw[show cat (st2 D (λi=>if i<q+1 then (if i=q then Value.slice (some (Ad c 0)) (D.na q) (D.na q) else R i) else A i)) D.n=_ from BH (d:=λk=>if k=q then (st2 D (λi=>if i<q then R i else A i) q).set 1 (.slice (some (Ad c 0)) (D.na q) (D.na q)) else st2 D (λi=>if i<q then R i else A i) k) (λk Q=>?_)]
  ·exact B
  by_cases e:k=q
  ·subst e;simp[st2]
  by_cases u:k<q
  ·simp[st2,e,u,show k<q+1 by omega]
  simp[st2,e,u,show ¬k<q+1 by omega]
 ·by_cases e:i=q
  ·subst e;show (wr.setCell _ _).ownsRow _ _ 4 (if i=i then _ else R i) _ _
   rw[ifp rfl];exact Dh m (o m) _
  show (wr.setCell _ _).ownsRow _ _ 4 (if i=q then _ else R i) _ _
  rw[ifn e];exact Dh (h.row i (by omega)) (o (h.row i (by omega))) _
 have l:(if i=q then Value.slice (some (Ad c 0)) (D.na q) (D.na q) else R i).ownBlock=some b:=hb
 show (if j=q then Value.slice (some (Ad c 0)) (D.na q) (D.na q) else R j).ownBlock≠some b
 by_cases e:i=q
 ·rw[ifp e]at l;rw[ifn (by omega)];have u:c=b:=by simpa [Value.ownBlock] using l
  rw[<-u];exact s j (by omega)
 rw[ifn e]at l;by_cases u:j=q
 ·rw[ifp u];intro J;have K:c=b:=by simpa [Value.ownBlock] using J
  exact s i (by omega) (by rw[K];exact l)
 rw[ifn u];exact h.apart i j (by omega) (by omega) G b l
def ApI.own{fv:Value}{φ:Int->Int->Int × Int}(h:ApI w wr c rb g D.n fv D φ R A):OwM wr w.heap.size (.slice (some (Ad g 0)) D.n D.n) (D.sym φ) R:=by
 refine⟨?_,h.row,h.apart⟩;show wr.ownsRow _ _ 2 _ D.n (cat (st2 (D.sym φ) R) D.n);rw[show cat (st2 (D.sym φ) R) D.n=cat (st2 D (λi=>if i<D.n then R i else A i)) D.n from BH λi hi=>by
  show [Value.string (D.fin i),R i]=[Value.string (D.fin i),if i<D.n then R i else A i]
  rw[ifp hi]]
 exact h.top
def OwM.box4{sv:Value}{a0 m o s:Value}(h:OwM w B sv D R)(hb:w.heap[rb]?=some (.cells #[a0,m,o,s] 24 (0,0)))(g j k l:Value):
  OwM ((((w.setCell (Ad rb 0) g).setCell (Ad rb 1) j).setCell (Ad rb 2) k).setCell (Ad rb 3) l) B sv D R :=
 have d:=Bj h.top hb (by decide);have c:=λi (hi:i<D.n)=>Bj (h.row i hi) hb (by decide)
 (((h.other (p:=(Ad rb 0)) d c g).other (p:=(Ad rb 1)) d c j).other (p:=(Ad rb 2)) d c k).other (p:=(Ad rb 3)) d c l
def ES{D:MD}{mv:Value}{nf:FuncId}{fc:Array Value}{φ:Int->Int->Int × Int}{P:World->Prop}(w:World)(hM:Ma none w mv D)(m8:MSz D)(ht:Tab w)(hF:SymF nf fc φ P)(hP:P w)(j3:∀wb,Below w.heap.size w wb->P wb):
  Calls prog 48 #[.agg #[.func (.func nf) #[] fc],mv] w (MkE (VM D) (D.sym φ) 1 w):=by
 obtain⟨sv,rfl,hS⟩:=hM;obtain⟨a,cp,b,a2,A,C,BB,O,rfl,ha,hc,hm,hb,Y⟩:=hS.open;obtain⟨x8,m9⟩:=hF;obtain⟨fv,x9⟩:=exq<|Value.func (.func nf) #[] fc;obtain⟨w1,c7⟩:=exq<|w.alloc (.cells #[.func (.func nf) #[] fc] 69);obtain⟨w2,c8⟩:=exq<|w1.alloc (.cells #[.int .i64 D.kind,.int .i64 D.start,.string D.lead,.slice a D.n cp] 24);obtain⟨w3,e8⟩:=exq<|w2.alloc (.cells #[.int .i64 0,.int .i64 0,.string ⟨#[]⟩,.slice none 0 0] 24);have n3:w1.heap.size=w.heap.size+1:=by rw[c7];simp
 have v2:w2.heap.size=w.heap.size+1+1:=by rw[c8];simp[n3]
 have r5:Fr (λ_=>False) w w1:=by rw[c7];exact Fr.alloc _ _
 have j7:Fr (λ_=>False) w1 w2:=by rw[c8];exact Fr.alloc _ _
 have g3:Fr (λ_=>False) w2 w3:=by rw[e8];exact Fr.alloc _ _
 have s8:w1.heap[w.heap.size]?=some (.cells #[.func (.func nf) #[] fc] 69 (0,0)):=by rw[c7];exact han w _
 have s9:w2.heap[w.heap.size+1]?=some (.cells #[.int .i64 D.kind,.int .i64 D.start,.string D.lead,.slice a D.n cp] 24 (0,0)):=by rw[<-n3,c8];exact han w1 _
 have l1:w3.heap[w.heap.size+1+1]?=some (.cells #[.int .i64 0,.int .i64 0,.string ⟨#[]⟩,.slice none 0 0] 24 (0,0)):=by rw[<-v2,e8];exact han w2 _
 have j4:w3.heap[w.heap.size]?=some (.cells #[.func (.func nf) #[] fc] 69 (0,0)):=(g3.block _ (by omega) (λe=>e)).trans ((j7.block _ (by omega) (λe=>e)).trans s8);have g6:w3.heap[w.heap.size+1]?=some (.cells #[.int .i64 D.kind,.int .i64 D.start,.string D.lead,.slice a D.n cp] 24 (0,0)):=(g3.block _ (by omega) (λe=>e)).trans s9;have g0:Below w.heap.size w w3:=((r5.trans j7).trans g3).below nlr (λ_ e=>e.elim);obtain⟨cb,j5⟩:=exq<|w.heap.size;obtain⟨mb,g7⟩:=exq<|w.heap.size+1;obtain⟨u,l9⟩:=exq<|w.heap.size+1+1;have g5:w.heap.size<=u:=by omega
 have v8:cb≠u:=by omega
 have w0:mb≠u:=by omega
 rw[<-j5]at j4;rw[<-g7]at g6;rw[<-l9]at l1;obtain⟨⟨m0,m1,m2,m3⟩,mz⟩:=cells4 g6;clear mz;have p6:=qh<|Ds w3 (⟨_,rfl,hS.kept (Ab g0 none)⟩:Ma none w3 (.agg #[.int .i64 D.kind,.int .i64 D.start,.string D.lead,.slice a D.n cp]) D) m8 (ht.below g0 nlr);clear r5 j7 g3 s8 s9 n3 v2;have i3:=qh g0;clear g0;have i6:=qh j4;clear j4;have i9:=qh g6;clear g6;have j1:=qh l1;clear l1;replace m8:=qh m8;replace ha:=qh ha;replace hb:=qh hb;have HR:=qh Y;clear Y hS;replace j3:=qh j3;clear hP ht;replace m9:=qh m9;rw[g7,e8,c8,c7]at m0 m1 m2 m3
 go_enter func48,ntmps48
 go_wp2_with fail
 rw[<-c7,<-c8,<-e8,<-l9,<-g7,<-j5];clear m0 m1 m2 m3 c7 c8 e8 l9 g7;have x3:w.heap.size<=cb:=by omega
 clear j5;refine p6.o.mono ?_;rintro r w4⟨d7,hr⟩;have h8:=i3.o.trans<|d7.mono i3.o.size;have q8:=(d7.block _ (lbk i6.o)).trans i6.o;have l2:=(d7.block _ (lbk i9.o)).trans i9.o;have l7:=(d7.block _ (lbk j1.o)).trans j1.o;clear d7 p6 i3 i6 i9 j1;obtain⟨⟨r0,r1,r2,r3⟩,rz⟩:=cells4 l7;have f0:=rz 0;have f1:=rz 1;have f2:=rz 2;have f3:=rz 3;clear rz;have i4:=qh h8;clear h8;have o2:=qh q8;clear q8;have j2:=qh l7;clear l7;obtain⟨⟨m0,m1,m2,m3⟩,mz⟩:=cells4 l2;clear mz;have o5:=qh l2;clear l2
 rcases hr with⟨B,rfl⟩|⟨B,rfl⟩
 rotate_left
 ·have HV:=qh B;clear B;clear m0 m1 m2 m3
  go_wp2_with fail
  refine bodyPost_ret (AH rfl _ (b:=u) rfl rfl (AG w4 u _ _ _ _ j2.o)) rfl ⟨AF i4.o g5 _ _ _ _,.inr ⟨HV.o,rfl⟩⟩
 have w8:1<=D.n:=B.n1;have w9:D.n<=3000:=B.n2;have l5:∀i,i<D.n->D.na i<=30000:=λi hi=>by have h1:=Nat.le_trans (BA D (show i+1<=D.n by omega)) B.arcs;have h2:Ac D (i+1)=Ac D i+D.na i:=rfl;omega
 have HV:=qh B;clear B;replace l5:=qh l5;obtain rfl:=ha.o (by omega);unfold maxLen at hm;have b9:=KX (P:=prog) 22 57 _ 2 40 underlying22 Hm .i64 .i64 D.n (by omega) (by omega);obtain⟨n,hn⟩:=exq<|D.n;rw[<-hn]at w8 w9 b9 m3 hc;obtain⟨zs,d0⟩:=exq<|madeCells (Value.agg #[.string ⟨#[]⟩,.slice none 0 0]).cells (n*2);rw[<-d0]at b9;have n6:zs.size=n*2:=by rw[d0];exact size_madeCells _ _
 replace n6:=qh n6;clear d0;have HN:=qh hn;rw[<-hn];clear hn
 go_wp2_with fail
 refine Au (λwk=>wk.cell? (Ad mb 0)=some (.int .i64 D.kind)/\wk.cell? (Ad mb 1)=some (.int .i64 D.start)/\wk.cell? (Ad mb 2)=some (.string D.lead)/\wk.cell? (Ad mb 3)=some (.slice (some (Ad b a2)) n cp)) 11 (by kernel_rfl) ?_;obtain⟨z,s⟩:=exq<|w4.drew;have k:z.cell? (Ad mb 0)=some (.int .i64 D.kind)/\z.cell? (Ad mb 1)=some (.int .i64 D.start)/\z.cell? (Ad mb 2)=some (.string D.lead)/\z.cell? (Ad mb 3)=some (.slice (some (Ad b a2)) n cp):=by rw[s];exact⟨m0,m1,m2,m3⟩
 rw[<-s];clear m0 m1 m2 m3 r0 r1 r2 r3 f0 f1 f2 f3;have p9:Below w.heap.size w z:=by rw[s];exact i4.o.drew
 have r4:z.heap[cb]?=some (.cells #[.func (.func nf) #[] fc] 69 (0,0)):=by rw[s];exact o2.o
 have t9:z.heap[mb]?=some (.cells #[.int .i64 D.kind,.int .i64 D.start,.string D.lead,.slice (some (Ad b a2)) D.n cp] 24 (0,0)):=by rw[s];exact o5.o
 have v0:z.heap[u]?=some (.cells #[.int .i64 0,.int .i64 0,.string ⟨#[]⟩,.slice none 0 0] 24 (0,0)):=by rw[s];exact j2.o
 have f5:=qh p9;clear p9 i4 o2 o5 j2;have f7:=qh r4;clear r4;have f9:=qh t9;clear t9;have a3:=qh v0;clear v0 s;refine Aa.tm 0 k ?_;refine Aa.tm 1 k ?_;refine Aa.tm 2 k ?_;refine Aa.tm 3 k ?_;refine Aa.tm 4 k ?_;refine Aa.tm 5 k ?_;refine Aa.tm 6 k ?_;refine Aa.tm 7 k ?_;refine Aa.tm 8 k ?_
 try simp only[Act.put,tryL]
 refine Aa.on 9 λK E=>?_;go_simp;obtain⟨g,hg⟩:=exq<|z.heap.size;obtain⟨wa,h3⟩:=exq<|z.alloc (.cells zs 57);have e1:Fr (λ_=>False) z wa:=by rw[h3];exact Fr.alloc _ _
 have s3:wa.heap[g]?=some (.cells zs 57 (0,0)):=by rw[h3,hg];exact han z _
 have q9:=(e1.block _ (lbk f7.o) (λe=>e)).trans f7.o;have l3:=(e1.block _ (lbk f9.o) (λe=>e)).trans f9.o;have l8:=(e1.block _ (lbk a3.o) (λe=>e)).trans a3.o;have p7:Below w.heap.size w wa:=f5.o.trans<|e1.below f5.o.size (λ_ e=>e.elim);have s4:w.heap.size<=g:=by rw[hg];exact f5.o.size
 have s7:g≠u:=by rw[hg];have:=lbk a3.o;omega
 have y1:g≠mb:=by rw[hg];have:=lbk f9.o;omega
 have v9:g≠cb:=by rw[hg];have:=lbk f7.o;omega
 rw[<-h3,<-hg];clear h3 hg;have S:wa.cell? (Ad mb 0)=some (.int .i64 D.kind)/\wa.cell? (Ad mb 1)=some (.int .i64 D.start)/\wa.cell? (Ad mb 2)=some (.string D.lead)/\wa.cell? (Ad mb 3)=some (.slice (some (Ad b a2)) n cp):=by rw[HN.o];exact(cells4 l3).1
 refine E.out _ _ (.inr S) ?_;clear E K b9
 try simp only[Act.put,tryL]
 obtain⟨⟨r0,r1,r2,r3⟩,rz⟩:=cells4 l8;have f0:=rz 0;have f1:=rz 1;have f2:=rz 2;have f3:=rz 3;clear rz e1 f5 f7 f9 a3 k;have i8:=qh s3;clear s3;have i7:=qh q9;clear q9;have j0:=qh l3;clear l3;have o8:=qh l8;clear l8;have i5:=qh p7;clear p7;refine Aa.on 10 λK E=>?_;go_simp;refine E.out _ _ (.inr S) ?_;clear E K
 try simp only[Act.put,tryL]
 refine Aa.on 11 λK E=>?_;go_simp;refine E.out _ _ (.inl rfl) (Aa.dn ?_);clear E K S;obtain⟨wb,h4⟩:∃wb,wb=(((wa.setCell ⟨u,0,none⟩ (.int .i64 D.kind)).setCell (Ad u 1) (.int .i64 D.start)).setCell (Ad u 2) (.string D.lead)).setCell (Ad u 3) (.slice (some (Ad g 0)) n n):=⟨_,rfl⟩;have e2:Fr (λq=>q=u) wa wb:=by rw[h4];exact(((((Fr.refl (λq=>q=u) wa).set (p:=(Ad u 0)) (.inl rfl) _).set (p:=(Ad u 1)) (.inl rfl) _).set (p:=(Ad u 2)) (.inl rfl) _).set (p:=(Ad u 3)) (.inl rfl) _)
 have g8:wb.heap[u]?=some (.cells #[.int .i64 D.kind,.int .i64 D.start,.string D.lead,.slice (some (Ad g 0)) n n] 24 (0,0)):=by rw[h4];exact AG wa u _ _ _ _ o8.o
 have g4:=(e2.block _ (lbk i8.o) s7).trans i8.o;have j6:=(e2.block _ (lbk i7.o) v8).trans i7.o;have l4:=(e2.block _ (lbk j0.o) w0).trans j0.o;have d9:Below w.heap.size w wb:=i5.o.trans (e2.below i5.o.size (λq e=>by rw[e];exact g5));have r3:=(cells4 g8).1.2.2.2;have m3:=(cells4 l4).1.2.2.2;rw[<-HN.o]at m3;obtain⟨Q,b5⟩:∃Q:Nat->Value,Q=λi=>.slice (A i) (D.na i) (C i):=⟨_,rfl⟩;obtain⟨cs,b8⟩:=exq<|cat (st2 D Q) n;have J:cs.length=n*2:=by rw[b8];exact Cf (CP D Q) n
 have X:∀v ∈ cs,v.oneCell'=true:=by
  rw[b8];refine GZ (λi v B=>?_) n;rw[b5]at B;simp[st2]at B
  rcases B with rfl|rfl<;>rfl
 have Z:∀j v,cs[j]?=some v->wb.cell? (((Ad b a2):Addr).add j)=some v:=by
  rw[b8];refine Jm (by omega) (CP D Q) (λi j hi hj v B=>?_);have q7:=(hb.o (by have:=HN.o;omega)).1;obtain⟨k1,k2,_⟩:=HR.o i (by have:=HN.o;omega);rw[b5]at B;have:j=0\/j=1:=by omega
  rcases this with rfl|rfl
  ·cases B;exact(d9.cell (p:=(Ad b (a2+i*2))) q7).trans k1
  cases B;exact(d9.cell (p:=(Ad b (a2+i*2+1))) q7).trans k2
 rw[<-h4];have h6:=qh J;clear J;have o6:=qh X;clear X;have p0:=qh Z;clear Z;replace b8:=qh b8;replace b5:=qh b5;replace g8:=qh g8;replace g4:=qh g4;replace j6:=qh j6;replace l4:=qh l4;replace d9:=qh d9;clear h4 e2 i8 i7 j0 o8 i5 r0 r1 r2 f0 f1 f2 f3;have T:=PV (P:=prog) wb 22 22 3 57 2 n g n (some (Ad b a2)) cp zs 57 cs underlying22 (by kernel_rfl) g4.o h6.o n6.o (λ_=>⟨_,rfl,p0.o⟩) o6.o;obtain⟨wc,c9⟩:=exq<|wb.setRow g cs.toArray;rw[<-c9]at T;have o:wc.ownsRow w.heap.size 57 2 (.slice (some (Ad g 0)) n n) n cs:=by rw[c9];exact OP g4.o s4 (by unfold maxLen;omega) cs h6.o
 have p8:Below w.heap.size w wc:=by rw[c9];exact below_setRow d9.o s4 _
 have I:ApI w wc cb u g 0 (.func (.func nf) #[] fc) D φ Q Q:=by
  refine⟨p8,?_,?_,g5,?_,λi hi=>absurd hi (Nat.not_lt_zero _),λi j hi=>absurd hi (Nat.not_lt_zero _)⟩
  ·rw[c9];exact(setRow_other wb g cb _ (λe=>v9 e.symm)).trans j6.o
  ·rw[c9,<-HN.o];exact(setRow_other wb g u _ (λe=>s7 e.symm)).trans g8.o
  rw[<-HN.o];rw[b8.o]at o;rw[show cat (st2 D (λi=>if i<0 then Q i else Q i)) n=cat (st2 D Q) n from BH λi _=>by simp]
  exact o
 have r3:wc.cell? (Ad u 3)=some (.slice (some (Ad g 0)) n n):=by
  have:=(cells4 I.kr).1.2.2.2;rw[<-HN.o]at this;exact this
 have c:=qh I;clear I o p8 c9
 go_wp2_with fail
 clear T r3 m3
 go_loopw [33] (λn7 wr=>∃(q:Nat) (R:Nat->Value),q<=n/\n7=.int .i64 (q:Int)/\ApI w wr cb u g q (.func (.func nf) #[] fc) D φ R Q) (λn7 _=>n-(intOf n7).toNat)
 case atStart=>exact⟨0,Q,Nat.zero_le _,rfl,c.o⟩
 obtain⟨q,R,hq,rfl,I⟩:=hrel;obtain⟨wo,x2⟩:=exq<|wr;clear x2;clear c;have c:=qh I;clear I;by_cases y2:q<n
 ·have y3:(q:Int)<(n:Int):=by omega
  have x5:(0:Int)<=(q:Int):=by omega
  have H:q<D.n:=by have:=HN.o;omega
  obtain⟨k1,k2,k3,k4,k5,k6,k7⟩:=HR.o q H;have x1:=l5.o q H;clear k1 k2;unfold maxLen at k4;have o:=c.o.top;have t0:wr.cell? (Ad g (q*2))=some (.string (D.fin q)):=Dg o (by
   have:=Cv (CP D (λi=>if i<q then R i else Q i)) (i:=q) (j:=0) (by omega) H
   rw[Nat.add_zero]at this;rw[this];rfl)
  have t1:wr.cell? (Ad g (q*2+1))=some (.slice (A q) (D.na q) (C q)):=Dg o (by
   rw[Cv (CP D (λi=>if i<q then R i else Q i)) (i:=q) (j:=1) (by omega) H]
   show some (if q<q then R q else Q q)=_
   rw[ifn (Nat.lt_irrefl _),b5.o])
  clear o;obtain⟨aq,d3⟩:=exq<|A q;obtain⟨nq,l⟩:=exq<|D.na q;obtain⟨cq,b7⟩:=exq<|C q;obtain⟨fq,k0⟩:=exq<|D.fin q;rw[<-d3,<-l,<-b7]at t1;rw[<-k0]at t0;rw[<-d3,<-l]at k5;rw[<-l]at k6 k7 x1;rw[<-l,<-b7]at k3;rw[<-b7]at k4;replace d3:=qh d3;replace b7:=qh b7;replace l:=qh l;replace k0:=qh k0;replace k5:=qh k5;replace k6:=qh k6;replace k7:=qh k7;obtain⟨sb,a7⟩:=exq<|wr.heap.size;obtain⟨w5,e9⟩:=exq<|wr.alloc (.cells #[.string fq,.slice aq nq cq] 57);have v3:w5.heap.size=sb+1:=by rw[e9,a7];simp
  obtain⟨zq,n5⟩:=exq<|madeCells (Value.agg #[.int .i64 0,.int .i64 0,.string ⟨#[]⟩,.int .i64 0]).cells (nq*4);have d0:zq.size=nq*4:=by rw[n5];exact size_madeCells _ _
  have b9:=KX (P:=prog) 55 59 _ 4 40 underlying55 Hl .i64 .i64 nq (by omega) (by omega);rw[<-n5]at b9;clear n5;obtain⟨w6,g9⟩:=exq<|w5.alloc (.cells zq 59);obtain⟨m,e3⟩:=exq<|sb+1;have r6:Fr (λ_=>False) wr w5:=by rw[e9];exact Fr.alloc _ _
  have j8:Fr (λ_=>False) w5 w6:=by rw[g9];exact Fr.alloc _ _
  have F:=r6.trans j8;have b4:w5.heap[sb]?=some (.cells #[.string fq,.slice aq nq cq] 57 (0,0)):=by rw[e9,a7];exact han wr _
  have e7:=(j8.block _ (lbk b4) (λe=>e)).trans b4;have k9:w6.heap[m]?=some (.cells zq 59 (0,0)):=by rw[g9,e3,<-v3];exact han w5 _
  have d8:Below w.heap.size w w6:=c.o.hb.trans<|F.below c.o.hb.size (λ_ e=>e.elim);obtain⟨az,d4⟩:=exq<|cat (arc4 D q) nq;have J:az.length=nq*4:=by rw[d4];exact Cf (DV D q) nq
  have X:∀v ∈ az,v.oneCell'=true:=by
   rw[d4];refine GZ (λi v B=>?_) nq;simp[arc4]at B
   rcases B with rfl|rfl|rfl|rfl<;>rfl
  have Z:0<nq->∃ad,aq=some ad/\∀j v,az[j]?=some v->w6.cell? (ad.add j)=some v:=λh0=>by
   refine⟨_,k5.o h0,?_⟩;rw[d4];refine Jm (by omega) (DV D q) (λi j hi hj v B=>?_);have g1:=(k6.o h0).1;obtain⟨t0,t1,t2,t3⟩:=k7.o i hi;have:j=0\/j=1\/j=2\/j=3:=by omega
   rcases this with rfl|rfl|rfl|rfl
   ·cases B;exact(d8.cell (p:=(Ad (BB q) (O q+i*4))) g1).trans t0
   ·cases B;exact(d8.cell (p:=(Ad (BB q) (O q+i*4+1))) g1).trans t1
   ·cases B;exact(d8.cell (p:=(Ad (BB q) (O q+i*4+2))) g1).trans t2
   cases B;exact(d8.cell (p:=(Ad (BB q) (O q+i*4+3))) g1).trans t3
  have T:=PV (P:=prog) w6 55 55 3 59 4 nq m nq aq cq zq 59 az underlying55 (by kernel_rfl) k9 J d0 Z X;obtain⟨w7,f4⟩:=exq<|w6.setRow m az.toArray;rw[<-f4]at T;have l0:w.heap.size<=m:=by have:=c.o.hb.size;omega
  have e6:w7.ownsRow w.heap.size 59 4 (.slice (some (Ad m 0)) nq nq) nq (cat (mixA D φ q 0) nq):=by
   rw[Wg,<-d4,f4];exact OP k9 l0 (by unfold maxLen;omega) az J
  have W:Fr (λx=>x=m) wr w7:=by
   rw[f4];exact⟨F.os,F.tape,F.output,by simp[World.setRow];exact F.size,λx hx x0=>(setRow_other w6 m x _ x0).trans (F.block x hx (λe=>e))⟩
  have i2:w7.heap[sb]?=some (.cells #[.string fq,.slice aq nq cq] 57 (0,0)):=by rw[f4];exact(setRow_other w6 m sb _ (by omega)).trans e7
  have s5:w5.cell? (Ad sb 1)=some (.slice aq nq cq):=by simp[World.cell?,b4]
  have s6:w6.cell? (Ad sb 1)=some (.slice aq nq cq):=by simp[World.cell?,e7]
  have d2:=qh e6;clear e6;replace W:=qh W;replace i2:=qh i2;have y0:g≠m:=by
   have:=(World.ownsRow.lt c.o.top g rfl).2;omega
  have t7:wr.heap.size<=m:=by omega
  clear r6 j8 F b4 e7 k9 d8 J X Z f4 d4 v3 d0;rw[g9]at s6 T;rw[e9]at s5 s6 T;rw[a7]at s5 s6;rw[e3,a7]at T;replace a7:=qh a7;replace e3:=qh e3;clear e9 g9
  go_wp2_with fail
  rw[<-a7.o,<-e3.o];clear T s5 s6 t0 t1 b9;have l6:∀wz,Fr (λx=>x=m) w7 wz->P wz:=λwz h=>j3.o wz (c.o.hb.trans ((W.o.trans h).below c.o.hb.size (λx e=>by rw[e];exact l0)));replace l6:=qh l6;have a9:w7.heap[cb]?=some (.cells #[.func (.func nf) #[] fc] 69 (0,0)):=(W.o.block _ (lbk c.o.kc) (by have:=lbk c.o.kc;omega)).trans c.o.kc;replace a9:=qh a9;have v7:cb≠m:=by have:=lbk c.o.kc;omega
  go_loopw [48] (λn9 wz=>∃d:Nat,d<=nq/\n9=.int .i64 (d:Int)/\wz.ownsRow w.heap.size 59 4 (.slice (some (Ad m 0)) nq nq) nq (cat (mixA D φ q d) nq)/\Fr (λx=>x=m) w7 wz) (λn9 _=>nq-(intOf n9).toNat)
  case atStart=>exact⟨0,Nat.zero_le _,rfl,d2.o,Fr.refl _ _⟩
  obtain⟨d,hd,rfl,Y,r9⟩:=hrel;clear d2;have a8:=qh Y;clear Y;have f8:=qh r9;clear r9;by_cases a6:d<nq
  ·have x7:(d:Int)<(nq:Int):=by omega
   have x4:(0:Int)<=(d:Int):=by omega
   obtain⟨z,s⟩:=exq<|wr.drew;obtain⟨ai,a4⟩:=exq<|D.ain q d;obtain⟨ao,a5⟩:=exq<|D.aout q d;have b0:Fr (λx=>x=m) w7 z:=by rw[s];exact f8.o.drew
   have N:z.ownsRow w.heap.size 59 4 (.slice (some (Ad m 0)) nq nq) nq (cat (mixA D φ q d) nq):=by rw[s];exact a8.o
   have h9:z.heap[cb]?=some (.cells #[.func (.func nf) #[] fc] 69 (0,0)):=(b0.block _ (lbk a9.o) v7).trans a9.o;have a0:z.cell? (Ad m (d*4))=some (.int .i64 ai):=Dg N (by
    have:=Cv (Gb D φ q d) (i:=d) (j:=0) (by omega) a6;rw[Nat.add_zero]at this;rw[this,a4];unfold mixA;rw[ifn (Nat.lt_irrefl _)];rfl)
   have a1:z.cell? (Ad m (d*4+1))=some (.int .i64 ao):=Dg N (by
    rw[Cv (Gb D φ q d) (i:=d) (j:=1) (by omega) a6,a5];unfold mixA;rw[ifn (Nat.lt_irrefl _)];rfl)
   have k:z.cell? (Ad cb 0)=some (.func (.func nf) #[] fc)/\z.cell? (Ad m (d*4))=some (.int .i64 ai)/\z.cell? (Ad m (d*4+1))=some (.int .i64 ao):=⟨by simp[World.cell?,h9],a0,a1⟩;have e0:=m9.o z (l6.o z b0) ai ao (by rw[a4];exact(HV.o.arc q d H (by rw[<-l.o];exact a6)).i0) (by rw[a4];exact(HV.o.arc q d H (by rw[<-l.o];exact a6)).i1) (by rw[a5];exact(HV.o.arc q d H (by rw[<-l.o];exact a6)).o0) (by rw[a5];exact(HV.o.arc q d H (by rw[<-l.o];exact a6)).o1);have d1:=qh e0;clear e0 a0 a1 h9;have o3:=qh b0;clear b0 f8;have a3:=qh N;clear N a8
   go_wp2_with fail
   refine Io (λwk=>wk.cell? (Ad cb 0)=some (.func (.func nf) #[] fc)/\wk.cell? (Ad m (d*4))=some (.int .i64 ai)/\wk.cell? (Ad m (d*4+1))=some (.int .i64 ao)) [0,1,2,3,17,18,19,20,21,22,23,24,25] (by kernel_rfl) ?_;rw[<-s];have x6:=qh s;clear s;replace a4:=qh a4;replace a5:=qh a5;refine AnyL.tq 0 ?_;refine AnyL.tq 1 ?_;refine AnyL.tq 2 ?_;refine AnyL.tq 3 ?_
   try simp only[Act.put,tryL]
   refine AnyL.tm 4 k ?_;refine AnyL.tm 5 k ?_;refine AnyL.tm 6 k ?_;refine AnyL.tm 7 k ?_;refine AnyL.tm 8 k ?_;refine AnyL.tm 9 k ?_;refine AnyL.tm 10 k ?_;refine AnyL.tm 11 k ?_;refine AnyL.tm 12 k ?_;refine AnyL.tm 13 k ?_;refine AnyL.tm 14 k ?_;refine AnyL.tm 15 k ?_
   try simp only[Act.put,tryL]
   refine AnyL.on 16 λK E=>?_;go_simp;refine d1.o.mono ?_;rintro r we⟨rfl,b6⟩;have r7:Fr (λx=>x=m) w7 we:=o3.o.trans<|Fr.of_below b6;have m4:we.ownsRow w.heap.size 59 4 (.slice (some (Ad m 0)) nq nq) nq (cat (mixA D φ q d) nq):=Bn a3.o (Ab b6 none) (λ_ _=>by simp);have S:we.cell? (Ad cb 0)=some (.func (.func nf) #[] fc)/\we.cell? (Ad m (d*4))=some (.int .i64 ai)/\we.cell? (Ad m (d*4+1))=some (.int .i64 ao):=⟨(Ab b6 none).cell k.1 (by simp),(Ab b6 none).cell k.2.1 (by simp),(Ab b6 none).cell k.2.2 (by simp)⟩;refine E.out _ _ (.inr S) ?_;clear E K k b6 d1 o3 a3;have f0:=DK m4 (d*4);have c0:=S.2.1;have c1:=S.2.2;clear S;have o4:=qh r7;clear r7;have o9:=qh m4;clear m4;obtain⟨b1,d5⟩:∃b1,b1=(φ ai ao).1:=⟨_,rfl⟩;obtain⟨b2,d6⟩:∃b2,b2=(φ ai ao).2:=⟨_,rfl⟩;rw[<-d5,<-d6];replace d5:=qh d5;replace d6:=qh d6;refine AnyL.loose' (by kernel_rfl) ?_
   try simp only[Act.put,tryL]
   refine AnyL.tm 17 trivial ?_;refine AnyL.tm 18 trivial ?_;refine AnyL.tm 19 trivial ?_;refine AnyL.tm 20 trivial ?_;refine AnyL.tm 21 trivial ?_
   try simp only[Act.put,tryL]
   refine AnyL.on 22 λK E=>?_;go_simp;refine E.out _ _ (.inr trivial) ?_;clear E K
   try simp only[Act.put,tryL]
   refine AnyL.on 23 λK E=>?_;go_simp;refine E.out _ _ (.inr trivial) ?_;clear E K
   try simp only[Act.put,tryL]
   refine AnyL.on 24 λK E=>?_;go_simp;refine E.out _ _ (.inr trivial) ?_;clear E K
   try simp only[Act.put,tryL]
   have e5:=EG o9.o (d*4) (.int .i64 b1);have v5:(we.setCell (Ad m (d*4)) (.int .i64 b1)).cell? (Ad m (d*4+1))=some (.int .i64 ao):=by rw[World.cell?_setCell_other _ _ _ _ (by simp)];exact c1
   have v6:=DK e5 (d*4+1);have h7:=qh e5;clear e5;clear c0 f0 c1;refine AnyL.on 25 λK E=>?_;go_simp;refine E.out _ _ (.inr trivial) (AnyL.dn ?_);clear E K v5 v6;obtain⟨wf,h5⟩:∃wf,wf=(we.setCell ⟨m,d*4,none⟩ (.int .i64 b1)).setCell (Ad m (d*4+1)) (.int .i64 b2):=⟨_,rfl⟩;have m5:wf.ownsRow w.heap.size 59 4 (.slice (some (Ad m 0)) nq nq) nq (cat (mixA D φ q (d+1)) nq):=by
    rw[h5];have h1:=EG h7.o (d*4+1) (.int .i64 b2);rw[d5.o,d6.o,a4.o,a5.o]at h1;rw[d5.o,d6.o,a4.o,a5.o];have h2:=Wh (D:=D) (φ:=φ) (q:=q) a6;rw[Nat.add_zero]at h2;rw[h2]at h1;exact h1
   have j9:Fr (λx=>x=m) w7 wf:=by rw[h5];exact(o4.o.set (p:=(Ad m (d*4))) (.inl rfl) _).set (p:=(Ad m (d*4+1))) (.inl rfl) _
   rw[<-h5];replace m5:=qh m5;replace j9:=qh j9;clear h5 h7 o9 o4;go_wp2;go_roundw
   case rel=>exact⟨d+1,by omega,by go_num,m5.o,j9.o⟩
   simp[intOf];omega
  obtain rfl:d=nq:=by omega
  have t8:¬((d:Int)<(d:Int)):=by omega
  have r8:=W.o.trans f8.o;have b3:=c.o.mid r8 t7 l0;have m7:=a8.o;rw[We,l.o]at m7;have L:=b3.next H (λi hi e=>by
   have:=(World.ownsRow.lt (c.o.row i hi) m e).2;omega) m7
  rw[<-l.o]at L;have r3:=(cells4 b3.kr).1.2.2.2;have o:=b3.top;have t1:wr.cell? (Ad g (q*2+1))=some (.slice aq d cq):=by
   refine Dg o ?_;rw[Cv (CP D (λi=>if i<q then R i else Q i)) (i:=q) (j:=1) (by omega) H]
   show some (if q<q then R q else Q q)=_
   rw[ifn (Nat.lt_irrefl _),b5.o];show some (Value.slice (A q) (D.na q) (C q))=_;rw[l.o,<-d3.o,<-b7.o]
  have f1:=DK o (q*2+1);rw[<-HN.o]at r3;replace L:=qh L;clear r8 b3 m7 o;clear a8 f8
  go_wp2_with fail
  clear r3 t1 f1;go_roundw
  case rel=>exact⟨q+1,_,by omega,by go_num,L.o⟩
  simp[intOf];omega
 obtain rfl:q=n:=by omega
 have t8:¬((q:Int)<(q:Int)):=by omega
 have U:=c.o;rw[HN.o]at U;have e4:=U.own;rw[<-HN.o]at e4;obtain⟨⟨r0,r1,r2,r3⟩,rz⟩:=cells4 U.kr;have f0:=rz 0;have f1:=rz 1;have f2:=rz 2;have f3:=rz 3;have G:=U.kr;clear rz U;rw[<-HN.o]at r3 G;have o7:=qh<|e4.box4 G (.int .i64 D.kind) (.int .i64 D.start) (.string D.lead) (.slice (some (Ad g 0)) q q);clear e4;replace G:=qh G;have v4:=qh c.o.hb
 go_wp2_with fail
 refine bodyPost_ret (AH rfl _ (b:=u) rfl rfl (AG wr u _ _ _ _ G.o)) rfl ⟨AF v4.o g5 _ _ _ _,.inl ⟨HV.o,_,R,rfl,o7.o⟩⟩
variable{mv:Value}
def Uz:∀args w,(callFunc 99 args).run prog w=.ok (.enter 99 args) w:=λargs w=>by kernel_rfl
def UA:∀args w,(callFunc 100 args).run prog w=.ok (.enter 100 args) w:=λargs w=>by kernel_rfl
def UB:∀args w,(callFunc 101 args).run prog w=.ok (.enter 101 args) w:=λargs w=>by kernel_rfl
def SZ(w:World)(i o:Int):Calls prog 99 #[.int .i64 i,.int .i64 o] w (λr w'=>r=.returned (.tuple #[.int .i64 o,.int .i64 i])/\w'=w):=by
 go_enter func99,ntmps99
 go_wp2;go_ret2;exact⟨rfl,rfl⟩
def Ta(w:World)(i o:Int):Calls prog 100 #[.int .i64 i,.int .i64 o] w (λr w'=>r=.returned (.tuple #[.int .i64 i,.int .i64 i])/\w'=w):=by
 go_enter func100,ntmps100
 go_wp2;go_ret2;exact⟨rfl,rfl⟩
def Tc(w:World)(i o:Int):Calls prog 101 #[.int .i64 i,.int .i64 o] w (λr w'=>r=.returned (.tuple #[.int .i64 o,.int .i64 o])/\w'=w):=by
 go_enter func101,ntmps101
 go_wp2;go_ret2;exact⟨rfl,rfl⟩
def GE{nf:FuncId}{φ:Int->Int->Int × Int}(c:∀args w,(callFunc nf args).run prog w=.ok (.enter nf args) w)(h:∀w i o,Calls prog nf #[.int .i64 i,.int .i64 o] w (λr w'=>r=.returned (.tuple #[.int .i64 (φ i o).1,.int .i64 (φ i o).2])/\w'=w)):SymF nf #[] φ (λ_=>True) :=
 ⟨c,λw _ i o _ _ _ _=>by
  rw[show ∀a b:Value,(#[a,b]++#[]:Array Value)=#[a,b] from λ_ _=>rfl];exact(h w i o).mono λr w' h=>⟨h.1,by rw[h.2];exact blr⟩⟩
def XY{fn:Func}{p:Tmp}(h:fn.results=#[.cell p 70])(c:Array Value){b:Nat}{d g i:FuncId}(l:c.getD p undef=.pointer (some (Ad b 0)))(hb:w.heap[b]?=some (.cells #[.func (.func d) #[] #[],.func (.func g) #[] #[],.func (.func i) #[] #[]] 70 (0,0))):
  (results fn c).run prog w=.ok (.agg #[.func (.func d) #[] #[],.func (.func g) #[] #[],.func (.func i) #[] #[]]) w:=by
 rw[KE h,l];show ((loadVar 70 (Ad b 0)).run prog w)=_;have m:w.rangeAt b 0 [.func (.func d) #[] #[],.func (.func g) #[] #[],.func (.func i) #[] #[]]:=by
  intro j v k;have o:j<3:=by have:=(List.getElem?_eq_some_iff.1 k).1;simpa using this
  have:j=0\/j=1\/j=2:=by omega
  rcases this with rfl|rfl|rfl<;>(simp at k;subst k;simp[World.cell?,hb])
 exact run_loadVar_mid (P:=prog) w b 0 70 [.func (.func d) #[] #[],.func (.func g) #[] #[],.func (.func i) #[] #[]] _ m underlying70 rfl (by kernel_rfl)
def Jn(w:World):Calls prog 47 #[] w (λr w'=>r=.returned (.agg #[.func (.func 99) #[] #[],.func (.func 100) #[] #[],.func (.func 101) #[] #[]])/\Below w.heap.size w w'):=by
 have c:=(Below.refl w.heap.size w).alloc nlr (.cells #[.func (.func 99) #[] #[],.func (.func 100) #[] #[],.func (.func 101) #[] #[]] 70);replace c:=qh c
 go_enter func47,ntmps47
 go_wp2_with fail
 refine bodyPost_ret (XY rfl _ (b:=w.heap.size) rfl (han w _)) rfl ⟨rfl,c.o⟩
def DI{B c:Nat}{sv:Value}{R:Nat->Value}(h:OwM w B sv D R)(p:c<=B):OwM w c sv D R :=
 have k:∀{e:TypeId} {s n:Nat} {v:Value} {xs:List Value},w.ownsRow B e s v n xs->w.ownsRow c e s v n xs:=λh=>⟨h.1,h.2.imp id (λ⟨g,d,j,l,m,o⟩=>⟨g,d,j,l,Nat.le_trans p m,o⟩)⟩
 ⟨k h.top,λi hi=>k (h.row i hi),h.apart⟩
def NG(w:World)(hM:Ma none w mv D)(a8:MSz D)(ht:Tab w):Calls prog 16 #[mv] w (MkE (VM D) D.inv 1 w):=by
 obtain⟨sv,rfl,hS⟩:=hM;obtain⟨a,J,_,_,_,_,_,_,a7,_⟩:=hS.open;subst a7;obtain⟨Q,G⟩:=exq<|w.alloc (.cells #[.int .i64 D.kind,.int .i64 D.start,.string D.lead,.slice a D.n J] 24);obtain⟨w2,O⟩:=exq<|Q.alloc (.cells #[.int .i64 0,.int .i64 0,.string ⟨#[]⟩,.slice none 0 0] 24);obtain⟨wd,P⟩:=exq<|w2.drew;have b8:Q.heap.size=w.heap.size+1:=by rw[G];simp
 have b3:Fr (λ_=>False) w Q:=by rw[G];exact Fr.alloc _ _
 have a2:Fr (λ_=>False) Q wd:=by rw[P,O];exact(Fr.alloc _ _).drew
 obtain⟨g,a5⟩:=exq<|w.heap.size;obtain⟨h,a6⟩:=exq<|w.heap.size+1;have a3:Q.heap[g]?=some (.cells #[.int .i64 D.kind,.int .i64 D.start,.string D.lead,.slice a D.n J] 24 (0,0)):=by rw[G,a5];exact han w _
 have a4:wd.heap[g]?=some (.cells #[.int .i64 D.kind,.int .i64 D.start,.string D.lead,.slice a D.n J] 24 (0,0)):=(a2.block _ (lbk a3) (λe=>e)).trans a3;have b5:wd.heap[h]?=some (.cells #[.int .i64 0,.int .i64 0,.string ⟨#[]⟩,.slice none 0 0] 24 (0,0)):=by rw[P,a6,<-b8];show w2.heap[Q.heap.size]?=_;rw[O];exact han Q _
 have b2:Below w.heap.size w wd:=(b3.trans a2).below nlr (λ_ e=>e.elim);have b6:w.heap.size<=h:=by omega
 have k:g≠h:=by omega
 have b1:=(cells4 a4).1;replace hS:=qh hS;replace a8:=qh a8;replace ht:=qh ht;have W:=qh b5;clear b5;have u:=qh a4;clear a4 a3;have U:=qh b2;clear b2 b3 a2 b8
 go_enter func16,ntmps16
 go_wp2_with fail
 refine Au (λwk=>wk.cell? (Ad g 0)=some (.int .i64 D.kind)/\wk.cell? (Ad g 1)=some (.int .i64 D.start)/\wk.cell? (Ad g 2)=some (.string D.lead)/\wk.cell? (Ad g 3)=some (.slice a D.n J)) 7 (by kernel_rfl) ?_;rw[<-G,<-O,<-P,<-a6,<-a5];clear G O P a6 a5;refine Aa.tm 2 b1 ?_
 try simp only[Act.put,tryL]
 refine Aa.on 0 λK d=>?_;go_simp;refine(Jn _).mono ?_;rintro r w3⟨rfl,z⟩;have Z:w3.cell? (Ad g 0)=some (.int .i64 D.kind)/\w3.cell? (Ad g 1)=some (.int .i64 D.start)/\w3.cell? (Ad g 2)=some (.string D.lead)/\w3.cell? (Ad g 3)=some (.slice a D.n J):=(cells4 ((z.block _ (lbk u.o)).trans u.o)).1;have b4:=(z.block _ (lbk u.o)).trans u.o;have b7:=(z.block _ (lbk W.o)).trans W.o;have l:=U.o.trans<|z.mono U.o.size;have a1:=ES (φ:=λi o=>(o,i)) w3 (⟨_,rfl,hS.o.kept (Ab l none)⟩:Ma none w3 (.agg #[.int .i64 D.kind,.int .i64 D.start,.string D.lead,.slice a D.n J]) D) a8.o (ht.o.below l nlr) (GE Uz (λw i o=>SZ w i o)) trivial (λ_ _=>trivial);rw[Zz]at a1;refine d.out _ _ (.inr Z) ?_;clear d K b1 z;have a9:=qh a1;clear a1;have X:=qh b7;clear b7 W;have s:=qh b4;clear b4 u;have I:=qh l;clear l U
 try simp only[Act.put,tryL]
 have c7:∀w,(Instr.index 70 (.agg #[.func (.func 99) #[] #[],.func (.func 100) #[] #[],.func (.func 101) #[] #[]]) (.int .i64 0)).run prog w=.ok (.agg #[.func (.func 99) #[] #[]]) w:=λ_=>by kernel_rfl
 refine Aa.tm 1 Z ?_
 try simp only[Act.put,tryL]
 clear c7;refine Aa.on 3 λK d=>?_;go_simp;refine a9.o.mono ?_;rintro r S⟨A,hr⟩;have j:S.cell? (Ad g 0)=some (.int .i64 D.kind)/\S.cell? (Ad g 1)=some (.int .i64 D.start)/\S.cell? (Ad g 2)=some (.string D.lead)/\S.cell? (Ad g 3)=some (.slice a D.n J):=(cells4 ((A.block _ (lbk s.o)).trans s.o)).1;have L:=(A.block _ (lbk s.o)).trans s.o;have p:=(A.block _ (lbk X.o)).trans X.o;have m:=I.o.trans<|A.mono I.o.size;have b9:w.heap.size<=w3.heap.size:=I.o.size;clear A Z;replace L:=qh L;clear s;replace p:=qh p;clear X;replace m:=qh m;clear I a9;obtain⟨⟨r0,r1,r2,r3⟩,rz⟩:=cells4 p.o;have f0:=rz 0;have f1:=rz 1;have f2:=rz 2;have f3:=rz 3;clear rz;unfold AE at hr
 rcases hr with⟨hv,c8,R,rfl,E⟩|⟨hv,rfl⟩
 ·have HV:=qh hv;clear hv;obtain⟨sa,sc,a7,_,_⟩:=AC E.top;subst a7;have b0:=qh<|E.box4 p.o (.int .i64 D.inv.kind) (.int .i64 D.inv.start) (.string D.inv.lead) (.slice sa D.inv.n sc);clear E;refine d.out _ _ (.inr j) ?_;clear d K
  try simp only[Act.put,tryL]
  refine Aa.tm 4 j ?_;refine Aa.tm 5 j ?_
  try simp only[Act.put,tryL]
  refine Aa.on 6 λK d=>?_;go_simp;obtain⟨H,c⟩:∃H,H=(((S.setCell ⟨h,0,none⟩ (.int .i64 D.inv.kind)).setCell (Ad h 1) (.int .i64 D.inv.start)).setCell (Ad h 2) (.string D.inv.lead)).setCell (Ad h 3) (.slice sa D.inv.n sc):=⟨_,rfl⟩;have C:H.heap[g]?=some (.cells #[.int .i64 D.kind,.int .i64 D.start,.string D.lead,.slice a D.n J] 24 (0,0)):=by rw[c,Ar k,Ar k,Ar k,Ar k];exact L.o
  have F:H.heap[h]?=some (.cells #[.int .i64 D.inv.kind,.int .i64 D.inv.start,.string D.inv.lead,.slice sa D.inv.n sc] 24 (0,0)):=by rw[c];exact AG S h _ _ _ _ p.o
  have B:Below w.heap.size w H:=by rw[c];exact AF m.o b6 _ _ _ _
  have N:=b0.o;rw[<-c]at N;replace N:=qh N;clear b0;rw[<-c];clear c;refine d.out _ _ (.inr (cells4 C).1) ?_;clear d K C;have Y:=qh F;clear F;have T:=qh B;clear B;clear r0 r1 r2 r3 f0 f1 f2 f3 j
  try simp only[Act.put,tryL]
  refine Aa.on 7 λK d=>?_;go_simp;refine d.out _ _ (.inl rfl) (Aa.dn ?_);clear d K
  go_wp2_with fail
  refine bodyPost_ret (AH rfl _ (b:=h) rfl rfl Y.o) rfl ⟨T.o,.inl ⟨HV.o,_,R,rfl,DI N.o b9⟩⟩
 have HV:=qh hv;clear hv;refine d.out _ _ (.inr j) ?_;clear d K
 try simp only[Act.put,tryL]
 refine Aa.tm 4 j ?_;refine Aa.tm 5 j ?_
 try simp only[Act.put,tryL]
 refine Aa.on 6 λK d=>?_;go_simp;obtain⟨H,c⟩:∃H,H=(((S.setCell ⟨h,0,none⟩ (.int .i64 0)).setCell ⟨h,1,none⟩ (.int .i64 0)).setCell (Ad h 2) (.string ⟨#[]⟩)).setCell (Ad h 3) (.slice none 0 0):=⟨_,rfl⟩;have C:H.heap[g]?=some (.cells #[.int .i64 D.kind,.int .i64 D.start,.string D.lead,.slice a D.n J] 24 (0,0)):=by rw[c,Ar k,Ar k,Ar k,Ar k];exact L.o
 have F:H.heap[h]?=some (.cells #[.int .i64 0,.int .i64 0,.string ⟨#[]⟩,.slice none 0 0] 24 (0,0)):=by rw[c];exact AG S h _ _ _ _ p.o
 have B:Below w.heap.size w H:=by rw[c];exact AF m.o b6 _ _ _ _
 rw[<-c];clear c;refine d.out _ _ (.inr (cells4 C).1) ?_;clear d K C;have Y:=qh F;clear F;have T:=qh B;clear B;clear r0 r1 r2 r3 f0 f1 f2 f3 j
 try simp only[Act.put,tryL]
 refine Aa.on 7 λK d=>?_;go_simp;refine d.out _ _ (.inl rfl) (Aa.dn ?_);clear d K
 go_wp2_with fail
 refine bodyPost_ret (AH rfl _ (b:=h) rfl rfl Y.o) rfl ⟨T.o,.inr ⟨HV.o,rfl⟩⟩
def JL(w:World)(hM:Ma none w mv D)(a8:MSz D)(ht:Tab w):Calls prog 21 #[mv] w (MkE (VM D) D.inR 1 w):=by
 obtain⟨sv,rfl,hS⟩:=hM;obtain⟨a,J,_,_,_,_,_,_,a7,_⟩:=hS.open;subst a7;obtain⟨Q,G⟩:=exq<|w.alloc (.cells #[.int .i64 D.kind,.int .i64 D.start,.string D.lead,.slice a D.n J] 24);obtain⟨w2,O⟩:=exq<|Q.alloc (.cells #[.int .i64 0,.int .i64 0,.string ⟨#[]⟩,.slice none 0 0] 24);obtain⟨wd,P⟩:=exq<|w2.drew;have b8:Q.heap.size=w.heap.size+1:=by rw[G];simp
 have b3:Fr (λ_=>False) w Q:=by rw[G];exact Fr.alloc _ _
 have a2:Fr (λ_=>False) Q wd:=by rw[P,O];exact(Fr.alloc _ _).drew
 obtain⟨g,a5⟩:=exq<|w.heap.size;obtain⟨h,a6⟩:=exq<|w.heap.size+1;have a3:Q.heap[g]?=some (.cells #[.int .i64 D.kind,.int .i64 D.start,.string D.lead,.slice a D.n J] 24 (0,0)):=by rw[G,a5];exact han w _
 have a4:wd.heap[g]?=some (.cells #[.int .i64 D.kind,.int .i64 D.start,.string D.lead,.slice a D.n J] 24 (0,0)):=(a2.block _ (lbk a3) (λe=>e)).trans a3;have b5:wd.heap[h]?=some (.cells #[.int .i64 0,.int .i64 0,.string ⟨#[]⟩,.slice none 0 0] 24 (0,0)):=by rw[P,a6,<-b8];show w2.heap[Q.heap.size]?=_;rw[O];exact han Q _
 have b2:Below w.heap.size w wd:=(b3.trans a2).below nlr (λ_ e=>e.elim);have b6:w.heap.size<=h:=by omega
 have k:g≠h:=by omega
 have b1:=(cells4 a4).1;replace hS:=qh hS;replace a8:=qh a8;replace ht:=qh ht;have W:=qh b5;clear b5;have u:=qh a4;clear a4 a3;have U:=qh b2;clear b2 b3 a2 b8
 go_enter func21,ntmps21
 go_wp2_with fail
 refine Au (λwk=>wk.cell? (Ad g 0)=some (.int .i64 D.kind)/\wk.cell? (Ad g 1)=some (.int .i64 D.start)/\wk.cell? (Ad g 2)=some (.string D.lead)/\wk.cell? (Ad g 3)=some (.slice a D.n J)) 7 (by kernel_rfl) ?_;rw[<-G,<-O,<-P,<-a6,<-a5];clear G O P a6 a5;refine Aa.tm 2 b1 ?_
 try simp only[Act.put,tryL]
 refine Aa.on 0 λK d=>?_;go_simp;refine(Jn _).mono ?_;rintro r w3⟨rfl,z⟩;have Z:w3.cell? (Ad g 0)=some (.int .i64 D.kind)/\w3.cell? (Ad g 1)=some (.int .i64 D.start)/\w3.cell? (Ad g 2)=some (.string D.lead)/\w3.cell? (Ad g 3)=some (.slice a D.n J):=(cells4 ((z.block _ (lbk u.o)).trans u.o)).1;have b4:=(z.block _ (lbk u.o)).trans u.o;have b7:=(z.block _ (lbk W.o)).trans W.o;have l:=U.o.trans<|z.mono U.o.size;have a1:=ES (φ:=λi _=>(i,i)) w3 (⟨_,rfl,hS.o.kept (Ab l none)⟩:Ma none w3 (.agg #[.int .i64 D.kind,.int .i64 D.start,.string D.lead,.slice a D.n J]) D) a8.o (ht.o.below l nlr) (GE UA (λw i o=>Ta w i o)) trivial (λ_ _=>trivial);rw[Zx]at a1;refine d.out _ _ (.inr Z) ?_;clear d K b1 z;have a9:=qh a1;clear a1;have X:=qh b7;clear b7 W;have s:=qh b4;clear b4 u;have I:=qh l;clear l U
 try simp only[Act.put,tryL]
 have c7:∀w,(Instr.index 70 (.agg #[.func (.func 99) #[] #[],.func (.func 100) #[] #[],.func (.func 101) #[] #[]]) (.int .i64 1)).run prog w=.ok (.agg #[.func (.func 100) #[] #[]]) w:=λ_=>by kernel_rfl
 refine Aa.tm 1 Z ?_
 try simp only[Act.put,tryL]
 clear c7;refine Aa.on 3 λK d=>?_;go_simp;refine a9.o.mono ?_;rintro r S⟨A,hr⟩;have j:S.cell? (Ad g 0)=some (.int .i64 D.kind)/\S.cell? (Ad g 1)=some (.int .i64 D.start)/\S.cell? (Ad g 2)=some (.string D.lead)/\S.cell? (Ad g 3)=some (.slice a D.n J):=(cells4 ((A.block _ (lbk s.o)).trans s.o)).1;have L:=(A.block _ (lbk s.o)).trans s.o;have p:=(A.block _ (lbk X.o)).trans X.o;have m:=I.o.trans<|A.mono I.o.size;have b9:w.heap.size<=w3.heap.size:=I.o.size;clear A Z;replace L:=qh L;clear s;replace p:=qh p;clear X;replace m:=qh m;clear I a9;obtain⟨⟨r0,r1,r2,r3⟩,rz⟩:=cells4 p.o;have f0:=rz 0;have f1:=rz 1;have f2:=rz 2;have f3:=rz 3;clear rz;unfold AE at hr
 rcases hr with⟨hv,c8,R,rfl,E⟩|⟨hv,rfl⟩
 ·have HV:=qh hv;clear hv;obtain⟨sa,sc,a7,_,_⟩:=AC E.top;subst a7;have b0:=qh<|E.box4 p.o (.int .i64 D.inR.kind) (.int .i64 D.inR.start) (.string D.inR.lead) (.slice sa D.inR.n sc);clear E;refine d.out _ _ (.inr j) ?_;clear d K
  try simp only[Act.put,tryL]
  refine Aa.tm 4 j ?_;refine Aa.tm 5 j ?_
  try simp only[Act.put,tryL]
  refine Aa.on 6 λK d=>?_;go_simp;obtain⟨H,c⟩:∃H,H=(((S.setCell ⟨h,0,none⟩ (.int .i64 D.inR.kind)).setCell (Ad h 1) (.int .i64 D.inR.start)).setCell (Ad h 2) (.string D.inR.lead)).setCell (Ad h 3) (.slice sa D.inR.n sc):=⟨_,rfl⟩;have C:H.heap[g]?=some (.cells #[.int .i64 D.kind,.int .i64 D.start,.string D.lead,.slice a D.n J] 24 (0,0)):=by rw[c,Ar k,Ar k,Ar k,Ar k];exact L.o
  have F:H.heap[h]?=some (.cells #[.int .i64 D.inR.kind,.int .i64 D.inR.start,.string D.inR.lead,.slice sa D.inR.n sc] 24 (0,0)):=by rw[c];exact AG S h _ _ _ _ p.o
  have B:Below w.heap.size w H:=by rw[c];exact AF m.o b6 _ _ _ _
  have N:=b0.o;rw[<-c]at N;replace N:=qh N;clear b0;rw[<-c];clear c;refine d.out _ _ (.inr (cells4 C).1) ?_;clear d K C;have Y:=qh F;clear F;have T:=qh B;clear B;clear r0 r1 r2 r3 f0 f1 f2 f3 j
  try simp only[Act.put,tryL]
  refine Aa.on 7 λK d=>?_;go_simp;refine d.out _ _ (.inl rfl) (Aa.dn ?_);clear d K
  go_wp2_with fail
  refine bodyPost_ret (AH rfl _ (b:=h) rfl rfl Y.o) rfl ⟨T.o,.inl ⟨HV.o,_,R,rfl,DI N.o b9⟩⟩
 have HV:=qh hv;clear hv;refine d.out _ _ (.inr j) ?_;clear d K
 try simp only[Act.put,tryL]
 refine Aa.tm 4 j ?_;refine Aa.tm 5 j ?_
 try simp only[Act.put,tryL]
 refine Aa.on 6 λK d=>?_;go_simp;obtain⟨H,c⟩:∃H,H=(((S.setCell ⟨h,0,none⟩ (.int .i64 0)).setCell ⟨h,1,none⟩ (.int .i64 0)).setCell (Ad h 2) (.string ⟨#[]⟩)).setCell (Ad h 3) (.slice none 0 0):=⟨_,rfl⟩;have C:H.heap[g]?=some (.cells #[.int .i64 D.kind,.int .i64 D.start,.string D.lead,.slice a D.n J] 24 (0,0)):=by rw[c,Ar k,Ar k,Ar k,Ar k];exact L.o
 have F:H.heap[h]?=some (.cells #[.int .i64 0,.int .i64 0,.string ⟨#[]⟩,.slice none 0 0] 24 (0,0)):=by rw[c];exact AG S h _ _ _ _ p.o
 have B:Below w.heap.size w H:=by rw[c];exact AF m.o b6 _ _ _ _
 rw[<-c];clear c;refine d.out _ _ (.inr (cells4 C).1) ?_;clear d K C;have Y:=qh F;clear F;have T:=qh B;clear B;clear r0 r1 r2 r3 f0 f1 f2 f3 j
 try simp only[Act.put,tryL]
 refine Aa.on 7 λK d=>?_;go_simp;refine d.out _ _ (.inl rfl) (Aa.dn ?_);clear d K
 go_wp2_with fail
 refine bodyPost_ret (AH rfl _ (b:=h) rfl rfl Y.o) rfl ⟨T.o,.inr ⟨HV.o,rfl⟩⟩
def Ia(w:World)(hM:Ma none w mv D)(a8:MSz D)(ht:Tab w):Calls prog 22 #[mv] w (MkE (VM D) D.outR 1 w):=by
 obtain⟨sv,rfl,hS⟩:=hM;obtain⟨a,J,_,_,_,_,_,_,a7,_⟩:=hS.open;subst a7;obtain⟨Q,G⟩:=exq<|w.alloc (.cells #[.int .i64 D.kind,.int .i64 D.start,.string D.lead,.slice a D.n J] 24);obtain⟨w2,O⟩:=exq<|Q.alloc (.cells #[.int .i64 0,.int .i64 0,.string ⟨#[]⟩,.slice none 0 0] 24);obtain⟨wd,P⟩:=exq<|w2.drew;have b8:Q.heap.size=w.heap.size+1:=by rw[G];simp
 have b3:Fr (λ_=>False) w Q:=by rw[G];exact Fr.alloc _ _
 have a2:Fr (λ_=>False) Q wd:=by rw[P,O];exact(Fr.alloc _ _).drew
 obtain⟨g,a5⟩:=exq<|w.heap.size;obtain⟨h,a6⟩:=exq<|w.heap.size+1;have a3:Q.heap[g]?=some (.cells #[.int .i64 D.kind,.int .i64 D.start,.string D.lead,.slice a D.n J] 24 (0,0)):=by rw[G,a5];exact han w _
 have a4:wd.heap[g]?=some (.cells #[.int .i64 D.kind,.int .i64 D.start,.string D.lead,.slice a D.n J] 24 (0,0)):=(a2.block _ (lbk a3) (λe=>e)).trans a3;have b5:wd.heap[h]?=some (.cells #[.int .i64 0,.int .i64 0,.string ⟨#[]⟩,.slice none 0 0] 24 (0,0)):=by rw[P,a6,<-b8];show w2.heap[Q.heap.size]?=_;rw[O];exact han Q _
 have b2:Below w.heap.size w wd:=(b3.trans a2).below nlr (λ_ e=>e.elim);have b6:w.heap.size<=h:=by omega
 have k:g≠h:=by omega
 have b1:=(cells4 a4).1;replace hS:=qh hS;replace a8:=qh a8;replace ht:=qh ht;have W:=qh b5;clear b5;have u:=qh a4;clear a4 a3;have U:=qh b2;clear b2 b3 a2 b8
 go_enter func22,ntmps22
 go_wp2_with fail
 refine Au (λwk=>wk.cell? (Ad g 0)=some (.int .i64 D.kind)/\wk.cell? (Ad g 1)=some (.int .i64 D.start)/\wk.cell? (Ad g 2)=some (.string D.lead)/\wk.cell? (Ad g 3)=some (.slice a D.n J)) 7 (by kernel_rfl) ?_;rw[<-G,<-O,<-P,<-a6,<-a5];clear G O P a6 a5;refine Aa.tm 2 b1 ?_
 try simp only[Act.put,tryL]
 refine Aa.on 0 λK d=>?_;go_simp;refine(Jn _).mono ?_;rintro r w3⟨rfl,z⟩;have Z:w3.cell? (Ad g 0)=some (.int .i64 D.kind)/\w3.cell? (Ad g 1)=some (.int .i64 D.start)/\w3.cell? (Ad g 2)=some (.string D.lead)/\w3.cell? (Ad g 3)=some (.slice a D.n J):=(cells4 ((z.block _ (lbk u.o)).trans u.o)).1;have b4:=(z.block _ (lbk u.o)).trans u.o;have b7:=(z.block _ (lbk W.o)).trans W.o;have l:=U.o.trans<|z.mono U.o.size;have a1:=ES (φ:=λ_ o=>(o,o)) w3 (⟨_,rfl,hS.o.kept (Ab l none)⟩:Ma none w3 (.agg #[.int .i64 D.kind,.int .i64 D.start,.string D.lead,.slice a D.n J]) D) a8.o (ht.o.below l nlr) (GE UB (λw i o=>Tc w i o)) trivial (λ_ _=>trivial);rw[ZA]at a1;refine d.out _ _ (.inr Z) ?_;clear d K b1 z;have a9:=qh a1;clear a1;have X:=qh b7;clear b7 W;have s:=qh b4;clear b4 u;have I:=qh l;clear l U
 try simp only[Act.put,tryL]
 have c7:∀w,(Instr.index 70 (.agg #[.func (.func 99) #[] #[],.func (.func 100) #[] #[],.func (.func 101) #[] #[]]) (.int .i64 2)).run prog w=.ok (.agg #[.func (.func 101) #[] #[]]) w:=λ_=>by kernel_rfl
 refine Aa.tm 1 Z ?_
 try simp only[Act.put,tryL]
 clear c7;refine Aa.on 3 λK d=>?_;go_simp;refine a9.o.mono ?_;rintro r S⟨A,hr⟩;have j:S.cell? (Ad g 0)=some (.int .i64 D.kind)/\S.cell? (Ad g 1)=some (.int .i64 D.start)/\S.cell? (Ad g 2)=some (.string D.lead)/\S.cell? (Ad g 3)=some (.slice a D.n J):=(cells4 ((A.block _ (lbk s.o)).trans s.o)).1;have L:=(A.block _ (lbk s.o)).trans s.o;have p:=(A.block _ (lbk X.o)).trans X.o;have m:=I.o.trans<|A.mono I.o.size;have b9:w.heap.size<=w3.heap.size:=I.o.size;clear A Z;replace L:=qh L;clear s;replace p:=qh p;clear X;replace m:=qh m;clear I a9;obtain⟨⟨r0,r1,r2,r3⟩,rz⟩:=cells4 p.o;have f0:=rz 0;have f1:=rz 1;have f2:=rz 2;have f3:=rz 3;clear rz;unfold AE at hr
 rcases hr with⟨hv,c8,R,rfl,E⟩|⟨hv,rfl⟩
 ·have HV:=qh hv;clear hv;obtain⟨sa,sc,a7,_,_⟩:=AC E.top;subst a7;have b0:=qh<|E.box4 p.o (.int .i64 D.outR.kind) (.int .i64 D.outR.start) (.string D.outR.lead) (.slice sa D.outR.n sc);clear E;refine d.out _ _ (.inr j) ?_;clear d K
  try simp only[Act.put,tryL]
  refine Aa.tm 4 j ?_;refine Aa.tm 5 j ?_
  try simp only[Act.put,tryL]
  refine Aa.on 6 λK d=>?_;go_simp;obtain⟨H,c⟩:∃H,H=(((S.setCell ⟨h,0,none⟩ (.int .i64 D.outR.kind)).setCell (Ad h 1) (.int .i64 D.outR.start)).setCell (Ad h 2) (.string D.outR.lead)).setCell (Ad h 3) (.slice sa D.outR.n sc):=⟨_,rfl⟩;have C:H.heap[g]?=some (.cells #[.int .i64 D.kind,.int .i64 D.start,.string D.lead,.slice a D.n J] 24 (0,0)):=by rw[c,Ar k,Ar k,Ar k,Ar k];exact L.o
  have F:H.heap[h]?=some (.cells #[.int .i64 D.outR.kind,.int .i64 D.outR.start,.string D.outR.lead,.slice sa D.outR.n sc] 24 (0,0)):=by rw[c];exact AG S h _ _ _ _ p.o
  have B:Below w.heap.size w H:=by rw[c];exact AF m.o b6 _ _ _ _
  have N:=b0.o;rw[<-c]at N;replace N:=qh N;clear b0;rw[<-c];clear c;refine d.out _ _ (.inr (cells4 C).1) ?_;clear d K C;have Y:=qh F;clear F;have T:=qh B;clear B;clear r0 r1 r2 r3 f0 f1 f2 f3 j
  try simp only[Act.put,tryL]
  refine Aa.on 7 λK d=>?_;go_simp;refine d.out _ _ (.inl rfl) (Aa.dn ?_);clear d K
  go_wp2_with fail
  refine bodyPost_ret (AH rfl _ (b:=h) rfl rfl Y.o) rfl ⟨T.o,.inl ⟨HV.o,_,R,rfl,DI N.o b9⟩⟩
 have HV:=qh hv;clear hv;refine d.out _ _ (.inr j) ?_;clear d K
 try simp only[Act.put,tryL]
 refine Aa.tm 4 j ?_;refine Aa.tm 5 j ?_
 try simp only[Act.put,tryL]
 refine Aa.on 6 λK d=>?_;go_simp;obtain⟨H,c⟩:∃H,H=(((S.setCell ⟨h,0,none⟩ (.int .i64 0)).setCell ⟨h,1,none⟩ (.int .i64 0)).setCell (Ad h 2) (.string ⟨#[]⟩)).setCell (Ad h 3) (.slice none 0 0):=⟨_,rfl⟩;have C:H.heap[g]?=some (.cells #[.int .i64 D.kind,.int .i64 D.start,.string D.lead,.slice a D.n J] 24 (0,0)):=by rw[c,Ar k,Ar k,Ar k,Ar k];exact L.o
 have F:H.heap[h]?=some (.cells #[.int .i64 0,.int .i64 0,.string ⟨#[]⟩,.slice none 0 0] 24 (0,0)):=by rw[c];exact AG S h _ _ _ _ p.o
 have B:Below w.heap.size w H:=by rw[c];exact AF m.o b6 _ _ _ _
 rw[<-c];clear c;refine d.out _ _ (.inr (cells4 C).1) ?_;clear d K C;have Y:=qh F;clear F;have T:=qh B;clear B;clear r0 r1 r2 r3 f0 f1 f2 f3 j
 try simp only[Act.put,tryL]
 refine Aa.on 7 λK d=>?_;go_simp;refine d.out _ _ (.inl rfl) (Aa.dn ?_);clear d K
 go_wp2_with fail
 refine bodyPost_ret (AH rfl _ (b:=h) rfl rfl Y.o) rfl ⟨T.o,.inr ⟨HV.o,rfl⟩⟩
end
end Go.Proofs.YteappjogmnogcaaGreatDoor
