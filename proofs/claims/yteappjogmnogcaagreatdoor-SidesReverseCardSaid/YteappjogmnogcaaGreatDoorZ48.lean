/- Parts. -/
import Derived.Test.YteappjogmnogcaaGreatDoorZ47
import Derived.Test.YteappjogmnogcaaGreatDoorZ42
namespace Go.Proofs.YteappjogmnogcaaGreatDoor
set_option maxRecDepth 100000
set_option linter.all false
set_option maxHeartbeats 16000000
open Go Tryz
section
open Go.RowKit Go.Deep
def YS{D:MD}{mv xv yv:Value}{na nb:Nat}{x y:Nat->Int}(w:World)(e4:Ma none w mv D)(i:MSz D)(hx:Si none w xv na x)(hy:Si none w yv nb y)(ht:Tab w):
  Calls prog 5 #[mv,xv,yv] w (TrueB w):=by
 obtain⟨e7,d6,b2⟩:=e4;subst d6;obtain⟨T,U,_,_,_,_,_,_,S,_⟩:=b2.open;subst S;have J:=qh<|show ∀W,Below w.heap.size w W->Ma none W (.agg #[.int .i64 D.kind,.int .i64 D.start,.string D.lead,.slice T D.n U]) D from λW h=>⟨_,rfl,b2.kept (Ab h none)⟩;clear b2;replace i:=qh i;obtain⟨a7,b0,_,_,b6,_,b3,m,_,_⟩:=hx.open;subst b6;have b7:(na:Int)<=9223372036854775807:=by unfold maxLen at m;omega
 clear b3 m;have a4:=qh<|show ∀W,Below w.heap.size w W->Si none W (.slice a7 na b0) na x from λW h=>hx.kept (Ab h none);clear hx;replace b7:=qh b7;obtain⟨a8,b1,_,_,b6,_,b3,m,_,_⟩:=hy.open;subst b6;have b8:(nb:Int)<=9223372036854775807:=by unfold maxLen at m;omega
 clear b3 m;have a5:=qh<|show ∀W,Below w.heap.size w W->Si none W (.slice a8 nb b1) nb y from λW h=>hy.kept (Ab h none);clear hy;replace b8:=qh b8;have L:=qh<|show ∀W,Below w.heap.size w W->Tab W from λW h=>ht.below h nlr;clear ht;have c:=qh<|Below.refl w.heap.size w;obtain⟨w1,k⟩:=exq<|w.alloc (.cells #[.int .i64 D.kind,.int .i64 D.start,.string D.lead,.slice T D.n U] 24);obtain⟨i1,F⟩:=exq<|w.heap.size;have d7:w1.heap.size=w.heap.size+1:=by rw[k];simp
 have hb:Below w.heap.size w w1:=by rw[k];exact(Below.refl _ w).alloc nlr _
 have hh:w1.heap[i1]?=some (.cells #[.int .i64 D.kind,.int .i64 D.start,.string D.lead,.slice T D.n U] 24 (0,0)):=by rw[F,k];exact han w _
 replace c:=qh<|c.o.trans (hb.mono c.o.size);clear hb;have g:=qh hh;clear hh;obtain⟨bA,X⟩:∃x,x=i1:=⟨_,rfl⟩;rw[<-X]at g
 go_enter func5,ntmps5
 obtain⟨⟨m0,m1,A,B⟩,_⟩:=cells4 g.o;rw[k]at m0 m1 A B;rw[X,F]at m0 m1 A B;have d:=qh<|Hq w1 (J.o w1 c.o) i.o
 go_wp2_with fail
 clear m0 m1 A B;rw[<-F,<-k];rw[<-X];clear k d7 F;clear X;refine d.o.mono ?_;rintro r w2⟨e3,rfl,b5,hb⟩;replace g:=qh<|(hb.block _ (lbk g.o)).trans g.o;replace c:=qh<|c.o.trans (hb.mono c.o.size);clear hb;clear d;cases e3
 rotate_left
 ·skip
  clear b5;have d:=qh<|CH w2 (L.o w2 c.o)
  go_wp2_with fail
  refine d.o.mono ?_;rintro r w3⟨rfl,hb⟩;replace g:=qh<|(hb.block _ (lbk g.o)).trans g.o;replace c:=qh<|c.o.trans (hb.mono c.o.size);clear hb;clear d;go_wp2;go_ret;exact⟨rfl,c.o⟩
 have c9:=qh (show ¬(8<D.n\/30<Ac D D.n) from λh=>by cases b5.2 h);clear b5;obtain⟨w4,o⟩:=exq<|w2.alloc (.cells #[.slice a7 na b0,.slice a8 nb b1] 25);obtain⟨i4,N⟩:=exq<|w2.heap.size;have d8:w4.heap.size=w2.heap.size+1:=by rw[o];simp
 have hb:Below w2.heap.size w2 w4:=by rw[o];exact(Below.refl _ w2).alloc nlr _
 have hk:w4.heap[i4]?=some (.cells #[.slice a7 na b0,.slice a8 nb b1] 25 (0,0)):=by rw[N,o];exact han w2 _
 replace g:=qh<|(hb.block _ (lbk g.o)).trans g.o;replace c:=qh<|c.o.trans (hb.mono c.o.size);clear hb;have HF:=qh<|JD w4 (cellOf hk 0 rfl) (cellOf hk 1 rfl) (a4.o w4 c.o) (a5.o w4 c.o) b7.o b8.o;clear hk;have d:=qh<|HF.o
 go_wp2_with fail
 rw[<-N,<-o];clear o d8 N;refine d.o.mono ?_;rintro r w5⟨bf,rfl,b4,hb⟩;replace g:=qh<|(hb.block _ (lbk g.o)).trans g.o;replace c:=qh<|c.o.trans (hb.mono c.o.size);clear hb;clear d;clear HF;cases bf
 rotate_left
 ·skip
  clear b4;have d:=qh<|CH w5 (L.o w5 c.o)
  go_wp2_with fail
  refine d.o.mono ?_;rintro r w6⟨rfl,hb⟩;replace g:=qh<|(hb.block _ (lbk g.o)).trans g.o;replace c:=qh<|c.o.trans (hb.mono c.o.size);clear hb;clear d;go_wp2;go_ret;exact⟨rfl,c.o⟩
 have G:=qh (JE λh=>by cases b4.2 h);clear b4;obtain⟨⟨m0,m1,A,B⟩,_⟩:=cells4 g.o;have d:=qh<|KM (D:=D) w5 (J.o w5 c.o) i.o (L.o w5 c.o)
 go_wp2_with fail
 clear m0 m1 A B;refine d.o.mono ?_;rintro r I⟨hb,hr⟩;replace g:=qh<|(hb.block _ (lbk g.o)).trans g.o;replace c:=qh<|c.o.trans (hb.mono c.o.size);clear hb;clear d
 rcases hr with⟨hv,Z,e6,R,rfl,P⟩|⟨hv,z,_⟩|⟨hv,rfl⟩
 rotate_left
 ·exact absurd (Yd hv i.o c9.o) z
 ·skip
  have e2:=qh hv;clear hv;unfold AE;obtain⟨w8,l⟩:=exq<|I.alloc (.cells #[.int .i64 0,.int .i64 0,.string ⟨#[]⟩,.slice none 0 0] 24);obtain⟨i8,O⟩:=exq<|I.heap.size;have d9:w8.heap.size=I.heap.size+1:=by rw[l];simp
  have hb:Below I.heap.size I w8:=by rw[l];exact(Below.refl _ I).alloc nlr _
  have hh:w8.heap[i8]?=some (.cells #[.int .i64 0,.int .i64 0,.string ⟨#[]⟩,.slice none 0 0] 24 (0,0)):=by rw[O,l];exact han I _
  replace g:=qh<|(hb.block _ (lbk g.o)).trans g.o;replace c:=qh<|c.o.trans (hb.mono c.o.size);clear hb;have KN:=qh hh;clear hh;obtain⟨bN,s⟩:∃x,x=i8:=⟨_,rfl⟩;rw[<-s]at KN;obtain⟨⟨m0,m1,A,B⟩,_⟩:=cells4 g.o;rw[l]at m0 m1 A B;have d:=qh<|CR w8 (J.o w8 c.o) i.o
  go_wp2_with fail
  clear m0 m1 A B;rw[<-O,<-l];rw[<-s];clear l d9 O;clear s;refine d.o.mono ?_;rintro r w9⟨hb,hr⟩;replace g:=qh<|(hb.block _ (lbk g.o)).trans g.o;replace KN:=qh<|(hb.block _ (lbk KN.o)).trans KN.o;replace c:=qh<|c.o.trans (hb.mono c.o.size);clear hb;clear d
  rcases hr with⟨z,rfl⟩|⟨_,rfl⟩
  ·exact absurd z e2.o
  obtain⟨⟨m0,m1,A,B⟩,_⟩:=cells4 KN.o;have d:=qh<|Gt w9 1 (L.o w9 c.o)
  go_wp2_with fail
  clear m0 m1 A B;refine d.o.mono ?_;rintro r e8⟨rfl,hb⟩;replace g:=qh<|(hb.block _ (lbk g.o)).trans g.o;replace KN:=qh<|(hb.block _ (lbk KN.o)).trans KN.o;replace c:=qh<|c.o.trans (hb.mono c.o.size);clear hb;clear d;go_wp2;go_ret;exact⟨rfl,c.o⟩
 have HV:=qh hv;clear hv;replace Z:=qh Z;obtain⟨a6,a9,S,_,_⟩:=AC P.top;have S:_=Value.slice a6 (revD D).n a9:=S;subst S;obtain⟨C,j⟩:=exq<|I.alloc (.cells #[.int .i64 (D.kind),.int .i64 ((D.n:Int)),.string (D.lead),.slice a6 (revD D).n a9] 24);obtain⟨a1,u⟩:=exq<|I.heap.size;have c8:C.heap.size=I.heap.size+1:=by rw[j];simp
 have hb:Below I.heap.size I C:=by rw[j];exact(Below.refl _ I).alloc nlr _
 have hh:Has C a1 (D.kind) ((D.n:Int)) (D.lead) a6 (revD D).n a9 (revD D):=by rw[u,j];exact Has.new P ⟨(KI D).symm,(Yf D).symm,(Yb D).symm⟩
 clear P;replace g:=qh<|(hb.block _ (lbk g.o)).trans g.o;replace c:=qh<|c.o.trans (hb.mono c.o.size);clear hb;have p:=qh hh;clear hh;obtain⟨bN,s⟩:∃x,x=a1:=⟨_,rfl⟩;rw[<-s]at p;obtain⟨⟨m0,m1,A,B⟩,_⟩:=cells4 g.o;rw[j]at m0 m1 A B;have d:=qh<|CR C (J.o C c.o) i.o
 go_wp2_with fail
 clear m0 m1 A B;rw[<-u,<-j];rw[<-s];clear j c8 u;clear s;refine d.o.mono ?_;rintro r a2⟨hb,hr⟩;replace p:=qh<|p.o.on hb;replace g:=qh<|(hb.block _ (lbk g.o)).trans g.o;replace c:=qh<|c.o.trans (hb.mono c.o.size);clear hb;clear d
 rcases hr with⟨_,rfl⟩|⟨z,rfl⟩
 rotate_left
 ·exact absurd HV.o z
 obtain⟨wd,b9⟩:=exq<|a2.drew;have hb:Below a2.heap.size a2 wd:=by rw[b9];exact(Below.refl _ a2).drew
 replace p:=qh<|p.o.on hb;replace g:=qh<|(hb.block _ (lbk g.o)).trans g.o;replace c:=qh<|c.o.trans (hb.mono c.o.size);clear hb;have Y:=(cells4 g.o).1
 go_wp2_with fail
 refine Au (λwk=>wk.cell? (Ad bA 0)=some (.int .i64 D.kind)/\wk.cell? (Ad bA 1)=some (.int .i64 D.start)/\wk.cell? (Ad bA 2)=some (.string D.lead)/\wk.cell? (Ad bA 3)=some (.slice T D.n U)) 10 (by kernel_rfl) ?_;rw[<-b9];clear b9;refine Aa.tm 0 Y ?_;refine Aa.tm 1 Y ?_;refine Aa.tm 3 Y ?_
 try simp only[Act.put,tryL]
 refine Aa.on 2 λK E=>?_;go_simp;refine(Mi wd (a4.o wd c.o) (by have:=G.o.1.1;omega)).mono ?_;rintro r e0⟨hb,v1,rfl,Q⟩;have d0:=qh Q;clear Q;replace p:=qh<|p.o.on hb;replace g:=qh<|(hb.block _ (lbk g.o)).trans g.o;replace c:=qh<|c.o.trans (hb.mono c.o.size);clear hb;have d3:=(cells4 g.o).1;refine E.out _ _ (.inr d3) ?_;clear E K Y
 try simp only[Act.put,tryL]
 refine Aa.on 4 λK E=>?_;go_simp;refine(Mi e0 (a5.o e0 c.o) (by have:=G.o.2.1;omega)).mono ?_;rintro r e1⟨hb,v2,rfl,d5⟩;have Q:=Bn d0.o (Ab hb none) (λ_ _=>by simp);have d2:=qh Q;clear Q;have d1:=qh d5;clear d5;replace p:=qh<|p.o.on hb;replace g:=qh<|(hb.block _ (lbk g.o)).trans g.o;replace c:=qh<|c.o.trans (hb.mono c.o.size);clear hb;have d4:=(cells4 g.o).1;refine E.out _ _ (.inr d4) ?_;clear E K d3
 try simp only[Act.put,tryL]
 refine Aa.on 5 λK E=>?_;go_simp;refine(IQ (D:=D) e1 (J.o e1 c.o) i.o (NJ d2.o) (NJ d1.o)).mono ?_;rintro r a3⟨hb,⟨f1,f0⟩,rfl,hz⟩;clear d0 d1 d2;replace p:=qh<|p.o.on hb;replace g:=qh<|(hb.block _ (lbk g.o)).trans g.o;replace c:=qh<|c.o.trans (hb.mono c.o.size);clear hb;have H:=(cells4 g.o).1;refine E.out _ _ (.inr H) ?_;clear E K d4
 try simp only[Act.put,tryL]
 rcases hz with⟨_,_,_,c7⟩|⟨z,_⟩
 rotate_left
 ·exact absurd ⟨HV.o,NH G.o.1.2,NH G.o.2.2⟩ z
 replace c7:=qh c7;refine Aa.tm 6 H ?_;refine Aa.tm 7 H ?_;refine Aa.tm 8 H ?_
 try simp only[Act.put,tryL]
 refine Aa.on 9 λK E=>?_;go_simp;refine E.out _ _ (.inr H) ?_;clear E K
 try simp only[Act.put,tryL]
 refine Aa.on 10 λK E=>?_;go_simp;refine E.out _ _ (.inl rfl) (Aa.dn ?_);clear E K H;obtain⟨⟨m0,m1,A,B⟩,_⟩:=cells4 p.o.1;obtain⟨⟨n0,n1,n2,n3⟩,_⟩:=cells4 g.o;have d:=qh<|FI a3 p.o.ma (KJ HV.o i.o) (L.o a3 c.o) (a4.o a3 c.o) (a5.o a3 c.o) Z.o G.o.1.2 G.o.2.2 (λz' e5 h0 hf=>Wv.rev HV.o Z.o e5 c7.o h0 hf)
 go_wp2_with fail
 clear m0 m1 A B;clear n0 n1 n2 n3;refine d.o.mono ?_;rintro r e9⟨rfl,hb⟩;replace p:=qh<|p.o.on hb;replace g:=qh<|(hb.block _ (lbk g.o)).trans g.o;replace c:=qh<|c.o.trans (hb.mono c.o.size);clear hb;clear d;go_wp2;go_ret;exact⟨rfl,c.o⟩
end
end Go.Proofs.YteappjogmnogcaaGreatDoor
