/- Parts. -/
import Derived.Test.YtpldocnhbdlgfaaGreatDoorPc44
namespace Go.Proofs.YtpldocnhbdlgfaaGreatDoor
set_option maxRecDepth 100000
set_option linter.all false
set_option maxHeartbeats 16000000
open Go Tryz
section
open Go.RowKit Go.Deep
variable{x:Nat->Int}{w:World}{D:MD}{na:Nat}
def Aa.pair{P:Program}{d:Array Oper}{Q:Exit->Act->World->Prop}{S:World->Prop}{s i j:Nat}{g:Nat}{c:Array Bool}{a:Act}(m:Region.ready .any d c=[i,j])
  (o:wpOp P d Q i (λa' w'=>(i=s\/S w')/\Aa P d Q S s g (c.setIfInBounds i true) a' w') a w)
  (p:wpOp P d Q j (λa' w'=>(j=s\/S w')/\Aa P d Q S s g (c.setIfInBounds j true) a' w') a w):Aa P d Q S s (g+1) c a w:=by
 refine⟨λl=>(by rw[m]at l;cases l),λk h=>?_⟩;rw[m]at h
 rcases List.mem_cons.1 h with rfl|h
 ·exact o
 obtain rfl:k=j:=by simpa using h
 exact p
def Tt{n:Nat}(h:isWord n x=true):n<=200/\∀i,0<=atW n x i/\atW n x i<=500:=by
 unfold isWord at h;simp only[Bool.and_eq_true,decide_eq_true_eq]at h;refine⟨h.1,λi=>?_⟩;have c:=Iq.1 h.2;unfold atW
 split
 ·rename_i hi;have:=c i hi;omega
 omega
abbrev wrd(D:MD)(na:Nat)(x:Nat->Int):MD:=Cs D.kind na x na x (oneF D.kind)
def BM(g:As D.kind=true)(h:isWord na x=true):VM (wrd D na x)/\MSz (wrd D na x)/\(wrd D na x).kind=D.kind/\(wrd D na x).start=0/\(wrd D na x).lead=oneF D.kind/\(wrd D na x).n=na+1:=by
 obtain⟨u,k⟩:=Tt h;have p:max na na=na:=Nat.max_self na;have j:=Gt D.kind na x na x (oneF D.kind) (max na na);have o:=(KU (v:=oneF D.kind) g k k (N:=max na na+1) (max na na) (by omega)).setFin (q:=max na na) (s:=oneF D.kind) (.inr (by rw[j.1];exact Ex g)) (Ew g);have d:(wrd D na x).n=max na na+1:=CQ D.kind na x na x (oneF D.kind) _;have m:(wrd D na x).start=0:=j.2.1;have i:(wrd D na x).kind=D.kind:=j.1;have l:(wrd D na x).lead=oneF D.kind:=j.2.2;refine⟨BOk.vm (c:=max na na) (by rw[d];exact o) (by rw[i];exact g) (by rw[d];omega) (by rw[d];omega) (by rw[m,d];omega) (by rw[i,l];exact Ex g) (by omega),Yt g k k (Ew g) (by omega),i,m,l,by rw[d,p]⟩
def ID{kind:Int}{u z:Value}{v:ByteArray}(w:World)(s:Si none w u na x)(p:(na:Int)<=9223372036854775807)(k:isWord na x=false):
  Calls prog 59 #[.int .i64 kind,u,z,.string v] w (λr w'=>Below w.heap.size w w'/\r=.returned (.tuple #[AP,.int .i64 1])):=by
 obtain⟨m,g⟩:=exq<|w.alloc (.cells #[.int .i64 0,.int .i64 0,.string ⟨#[]⟩,.slice none 0 0] 25);obtain⟨i,h⟩:=exq<|w.heap.size;have c:Below w.heap.size w m:=by rw[g];exact(Below.refl _ w).alloc nlr _
 have d:m.heap[i]?=some (.cells #[.int .i64 0,.int .i64 0,.string ⟨#[]⟩,.slice none 0 0] 25 (0,0)):=by rw[g,h];exact han w _
 have o:w.heap.size<=i:=by omega
 have j:=qh<|II m (s.kept (Ae c none)) p;rw[k]at j;replace c:=qh c;replace d:=qh d;clear s k
 go_enter func59,ntmps59
 go_wp2_with fail
 rw[<-g,<-h];clear g h;refine j.o.mono ?_;rintro r H⟨rfl,rfl⟩;obtain⟨⟨E,r1,F,G⟩,l⟩:=cells4 d.o;have A:=l 0;have B:=l 1;have C:=l 2;have D:=l 3;clear l
 go_wp2_with fail
 exact bodyPost_ret (AJ rfl _ (b:=i) rfl rfl (AE _ i _ _ _ _ d.o)) rfl ⟨Ax c.o o _ _ _ _,rfl⟩
def UU{w':World}{sv:Value}{B:Nat}{R:Nat->Value}(h:OwM w B sv D R)(hb:Below w.heap.size w w'):OwM w' B sv D R :=
 ⟨AG h.top (Ae hb none) (λ_ _=>by simp),λi hi=>AG (h.row i hi) (Ae hb none) (λ_ _=>by simp),h.apart⟩
def CN{b c:Nat}(h:b≠c)(d g i j:Value):(w.setCells c 0 [d,g,i,j]).heap[b]?=w.heap[b]? :=
 (AQ h).trans ((AQ h).trans ((AQ h).trans (AQ h)))
def CafE(na:Nat)(x:Nat->Int)(D:MD)(w:World)(r:Ending)(w':World):Prop :=
 Below w.heap.size w w'/\((VM D/\isWord na x=true/\
  ((∃n M,CmpIs (wrd D na x) D (alF (wrd D na x)) n M/\∃sv R,r=.returned (.tuple #[.agg #[.int .i64 M.kind,.int .i64 M.start,.string M.lead,sv],.int .i64 0])/\OwM w' w.heap.size sv M R)\/(BadC (wrd D na x) D/\r=.returned (.tuple #[AP,.int .i64 2]))))\/
  (¬(VM D/\isWord na x=true)/\r=.returned (.tuple #[AP,.int .i64 1])))
def Lk{xv mv:Value}(w:World)(hx:Si none w xv na x)(hM:Ma none w mv D)(b7:(na:Int)<=9223372036854775807)(d9:MSz D)(ht:Tab w):Calls prog 26 #[xv,mv] w (CafE na x D w):=by
 obtain⟨ax,cx,rfl⟩:=hx.shape;obtain⟨sv,rfl,hS⟩:=hM;obtain⟨a,cp,_,_,_,_,_,_,Z,_⟩:=hS.open;subst Z;have d8:∀W,Below w.heap.size w W->Ma none W (.agg #[.int .i64 D.kind,.int .i64 D.start,.string D.lead,.slice a D.n cp]) D:=λW h=>⟨_,rfl,hS.kept (Ae h none)⟩;have b5:∀W,Below w.heap.size w W->Si none W (.slice ax na cx) na x:=λW h=>hx.kept (Ae h none);have b8:∀W,Below w.heap.size w W->Tab W:=λW h=>ht.below h nlr;obtain⟨w1,e0⟩:=exq<|w.alloc (.cells #[.int .i64 D.kind,.int .i64 D.start,.string D.lead,.slice a D.n cp] 25);obtain⟨w2,f7⟩:=exq<|w1.alloc (.cells #[.int .i64 0,.int .i64 0,.string ⟨#[]⟩,.slice none 0 0] 25);have h6:w1.heap.size=w.heap.size+1:=by rw[e0];simp
 have h5:Fr (λ_=>False) w w1:=by rw[e0];exact Fr.alloc _ _
 have g9:Fr (λ_=>False) w1 w2:=by rw[f7];exact Fr.alloc _ _
 obtain⟨mb,g4⟩:=exq<|w.heap.size;obtain⟨L,h2⟩:=exq<|w.heap.size+1;have h0:w1.heap[mb]?=some (.cells #[.int .i64 D.kind,.int .i64 D.start,.string D.lead,.slice a D.n cp] 25 (0,0)):=by rw[e0,g4];exact han w _
 have d7:w2.heap[mb]?=some (.cells #[.int .i64 D.kind,.int .i64 D.start,.string D.lead,.slice a D.n cp] 25 (0,0)):=(g9.block _ (lbk h0) (λe=>e)).trans h0;have f4:w2.heap[L]?=some (.cells #[.int .i64 0,.int .i64 0,.string ⟨#[]⟩,.slice none 0 0] 25 (0,0)):=by rw[h2,<-h6,f7];exact han w1 _
 have g1:Below w.heap.size w w2:=(h5.trans g9).below nlr (λ_ e=>e.elim);have b6:w.heap.size<=L:=by omega
 obtain⟨⟨m0,m1,m2,m3⟩,_⟩:=cells4 d7;have h4:=qh<|Dz w2 (d8 w2 g1) d9 (b8 w2 g1);replace d8:=qh d8;replace b5:=qh b5;clear hx;replace b8:=qh b8;clear ht;have g5:=qh g1;clear g1;have g6:=qh d7;clear d7 h0 h5 g9;have g7:=qh f4;clear f4;replace d9:=qh d9;clear hS;rw[g4,f7,e0]at m0 m1 m2 m3
 go_enter func26,ntmps26
 go_wp2_with fail
 rw[<-e0,<-f7,<-h2,<-g4];have h8:mb≠L:=by omega
 have h7:w.heap.size<=mb:=by omega
 clear m0 m1 m2 m3 e0 f7 g4 h2 h6;refine h4.o.mono ?_;rintro r w4⟨g2,hr⟩;have d7:=(g2.block _ (lbk g6.o)).trans g6.o;have f4:=(g2.block _ (lbk g7.o)).trans g7.o;have g0:=qh<|g5.o.trans (g2.mono g5.o.size);clear g2 g6 g7 h4 g5;have g8:=qh d7;clear d7;have e9:=qh f4;clear f4
 rcases hr with⟨hv,rfl⟩|⟨hv,rfl⟩
 rotate_left
 ·have HV:=qh hv;clear hv;obtain⟨⟨r0,r1,r2,r3⟩,O⟩:=cells4 e9.o;have f0:=O 0;have f1:=O 1;have f2:=O 2;have f3:=O 3;clear O
  go_wp2_with fail
  exact bodyPost_ret (AJ rfl _ (b:=L) rfl rfl (AE w4 L _ _ _ _ e9.o)) rfl ⟨Ax g0.o b6 _ _ _ _,.inr ⟨λh=>HV.o h.1,rfl⟩⟩
 have HV:=qh hv;clear hv;obtain⟨w5,f8⟩:=exq<|w4.drew;have g3:Below w4.heap.size w4 w5:=by rw[f8];exact(Below.refl _ w4).drew
 have G:=qh<|(g3.block _ (lbk g8.o)).trans g8.o;have a7:=qh<|(g3.block _ (lbk e9.o)).trans e9.o;have a5:=qh<|g0.o.trans (g3.mono g0.o.size);clear g3 g0 g8 e9;cases m:isWord na x
 ·replace m:=qh m
  go_wp2_with fail
  refine AD (λwk=>wk.cell? (Ad mb 0)=some (.int .i64 D.kind)) 13 (by kernel_rfl) ?_;rw[<-f8];clear f8;refine Aa.tm 0 (cells4 G.o).1.1 ?_;refine Aa.tm 1 (cells4 G.o).1.1 ?_;refine Aa.tm 2 (cells4 G.o).1.1 ?_;refine Aa.tm 3 (cells4 G.o).1.1 ?_;refine Aa.tm 4 (cells4 G.o).1.1 ?_;refine Aa.tm 5 (cells4 G.o).1.1 ?_
  try simp only[Act.put,tryL]
  refine Aa.pair (i:=6) (j:=11) (by kernel_rfl) (Bt rfl rfl λK g=>?_) (Bt rfl rfl λK g=>?_)
  ·go_simp;refine(Gg D.kind _).mono ?_;rintro r w6⟨rfl,P⟩;have C:=qh<|(P.block _ (lbk G.o)).trans G.o;have I:=qh<|(P.block _ (lbk a7.o)).trans a7.o;have B:=qh<|a5.o.trans (P.mono a5.o.size);clear P a5 G a7;refine g _ _ ⟨.inr (cells4 C.o).1.1,?_⟩;clear g K
   try simp only[Act.put,tryL]
   refine Aa.pair (i:=7) (j:=11) (by kernel_rfl) (Bt rfl rfl λK g=>?_) (Bt rfl rfl λK g=>?_)
   ·go_simp;refine(ID w6 (b5.o w6 B.o) b7 m.o).mono ?_;rintro r Q⟨u,rfl⟩;unfold AP;have l:=qh<|(u.block _ (lbk C.o)).trans C.o;have H:=qh<|(u.block _ (lbk I.o)).trans I.o;have o:=qh<|B.o.trans (u.mono B.o.size);clear u B C I;refine g _ _ ⟨.inr (cells4 l.o).1.1,?_⟩;clear g K
    try simp only[Act.put,tryL]
    refine Aa.tm 8 (cells4 l.o).1.1 ?_;refine Aa.tm 9 (cells4 l.o).1.1 ?_;refine Aa.tm 10 (cells4 l.o).1.1 ?_
    try simp only[Act.put,tryL]
    refine Aa.on 11 λK g=>?_;go_simp;obtain⟨S,d1⟩:=exq<|Q.alloc (.cells #[.int .i64 0,.int .i64 0,.string ⟨#[]⟩,.slice none 0 0] 25);obtain⟨k,z⟩:=exq<|Q.heap.size;have s:Below Q.heap.size Q S:=by rw[d1];exact(Below.refl _ Q).alloc nlr _
    have E:=qh (show S.heap[k]?=some (.cells #[.int .i64 0,.int .i64 0,.string ⟨#[]⟩,.slice none 0 0] 25 (0,0)) by rw[d1,z];exact han Q _);have b4:w.heap.size<=k:=by rw[z];exact o.o.size
    have b3:L≠k:=by have:=lbk H.o;omega
    have b2:mb≠k:=by have:=lbk l.o;omega
    rw[<-d1,<-z];clear d1 z;have p:=qh<|(s.block _ (lbk l.o)).trans l.o;have U:=qh<|(s.block _ (lbk H.o)).trans H.o;have T:=qh<|o.o.trans (s.mono o.o.size);clear s o l H;refine g.out _ _ (.inr (cells4 p.o).1.1) ?_;clear g K
    try simp only[Act.put,tryL]
    obtain⟨⟨a0,a1,a2,a3⟩,X⟩:=cells4 E.o;have z0:=X 0;have z1:=X 1;have z2:=X 2;have z3:=X 3;clear X;refine Aa.on 12 λK g=>?_;go_simp;obtain⟨A,d⟩:∃A,A=(((S.setCell ⟨k,0,none⟩ (.int .i64 0)).setCell ⟨k,1,none⟩ (.int .i64 0)).setCell (Ad k 2) (.string ⟨#[]⟩)).setCell (Ad k 3) (.slice none 0 0):=⟨_,rfl⟩;have a6:=qh ((show A.heap[mb]?=S.heap[mb]? by rw[d];exact CN b2 _ _ _ _).trans p.o);have N:=qh ((show A.heap[L]?=S.heap[L]? by rw[d];exact CN b3 _ _ _ _).trans U.o);have d2:=qh (show A.heap[k]?=some (.cells #[.int .i64 0,.int .i64 0,.string ⟨#[]⟩,.slice none 0 0] 25 (0,0)) by rw[d];exact AE S k _ _ _ _ E.o);have F:=qh (show Below w.heap.size w A by rw[d];exact Ax T.o b4 _ _ _ _);rw[<-d];clear d a0 a1 a2 a3 z0 z1 z2 z3 p U E T;refine g.out _ _ (.inr (cells4 a6.o).1.1) ?_;clear g K
    try simp only[Act.put,tryL]
    refine Aa.on 13 λK g=>?_;go_simp;refine g.out _ _ (.inl rfl) (Aa.dn ?_);clear g K;obtain⟨⟨r0,r1,r2,r3⟩,O⟩:=cells4 N.o;have f0:=O 0;have f1:=O 1;have f2:=O 2;have f3:=O 3;clear O
    go_wp2_with fail
    exact bodyPost_ret (AJ rfl _ (b:=L) rfl rfl (AE _ L _ _ _ _ N.o)) rfl ⟨Ax F.o b6 _ _ _ _,.inr ⟨λh=>absurd h.2 (by rw[m.o];decide),rfl⟩⟩
   go_simp;obtain⟨Q,d0⟩:=exq<|w6.alloc (.cells #[.int .i64 0,.int .i64 0,.string ⟨#[]⟩,.slice none 0 0] 25);obtain⟨k,z⟩:=exq<|w6.heap.size;have u:Below w6.heap.size w6 Q:=by rw[d0];exact(Below.refl _ w6).alloc nlr _
   have a4:=qh (show Q.heap[k]?=some (.cells #[.int .i64 0,.int .i64 0,.string ⟨#[]⟩,.slice none 0 0] 25 (0,0)) by rw[d0,z];exact han w6 _);have b4:w.heap.size<=k:=by rw[z];exact B.o.size
   have b3:L≠k:=by have:=lbk I.o;omega
   have b2:mb≠k:=by have:=lbk C.o;omega
   rw[<-d0,<-z];clear d0 z;have l:=qh<|(u.block _ (lbk C.o)).trans C.o;have H:=qh<|(u.block _ (lbk I.o)).trans I.o;have o:=qh<|B.o.trans (u.mono B.o.size);clear u B C I;refine g _ _ ⟨.inr (cells4 l.o).1.1,?_⟩;clear g K
   try simp only[Act.put,tryL]
   refine Aa.on 7 λK g=>?_;go_simp;refine(ID Q (b5.o Q o.o) b7 m.o).mono ?_;rintro r S⟨s,rfl⟩;unfold AP;have p:=qh<|(s.block _ (lbk l.o)).trans l.o;have U:=qh<|(s.block _ (lbk H.o)).trans H.o;have E:=qh<|(s.block _ (lbk a4.o)).trans a4.o;have T:=qh<|o.o.trans (s.mono o.o.size);clear s o l H a4;refine g.out _ _ (.inr (cells4 p.o).1.1) ?_;clear g K
   try simp only[Act.put,tryL]
   refine Aa.tm 8 (cells4 p.o).1.1 ?_;refine Aa.tm 9 (cells4 p.o).1.1 ?_;refine Aa.tm 10 (cells4 p.o).1.1 ?_
   try simp only[Act.put,tryL]
   obtain⟨⟨a0,a1,a2,a3⟩,X⟩:=cells4 E.o;have z0:=X 0;have z1:=X 1;have z2:=X 2;have z3:=X 3;clear X;refine Aa.on 12 λK g=>?_;go_simp;obtain⟨A,d⟩:∃A,A=(((S.setCell ⟨k,0,none⟩ (.int .i64 0)).setCell ⟨k,1,none⟩ (.int .i64 0)).setCell (Ad k 2) (.string ⟨#[]⟩)).setCell (Ad k 3) (.slice none 0 0):=⟨_,rfl⟩;have a6:=qh ((show A.heap[mb]?=S.heap[mb]? by rw[d];exact CN b2 _ _ _ _).trans p.o);have N:=qh ((show A.heap[L]?=S.heap[L]? by rw[d];exact CN b3 _ _ _ _).trans U.o);have d2:=qh (show A.heap[k]?=some (.cells #[.int .i64 0,.int .i64 0,.string ⟨#[]⟩,.slice none 0 0] 25 (0,0)) by rw[d];exact AE S k _ _ _ _ E.o);have F:=qh (show Below w.heap.size w A by rw[d];exact Ax T.o b4 _ _ _ _);rw[<-d];clear d a0 a1 a2 a3 z0 z1 z2 z3 p U E T;refine g.out _ _ (.inr (cells4 a6.o).1.1) ?_;clear g K
   try simp only[Act.put,tryL]
   refine Aa.on 13 λK g=>?_;go_simp;refine g.out _ _ (.inl rfl) (Aa.dn ?_);clear g K;obtain⟨⟨r0,r1,r2,r3⟩,O⟩:=cells4 N.o;have f0:=O 0;have f1:=O 1;have f2:=O 2;have f3:=O 3;clear O
   go_wp2_with fail
   exact bodyPost_ret (AJ rfl _ (b:=L) rfl rfl (AE _ L _ _ _ _ N.o)) rfl ⟨Ax F.o b6 _ _ _ _,.inr ⟨λh=>absurd h.2 (by rw[m.o];decide),rfl⟩⟩
  go_simp;obtain⟨w6,b9⟩:=exq<|w5.alloc (.cells #[.int .i64 0,.int .i64 0,.string ⟨#[]⟩,.slice none 0 0] 25);obtain⟨k,z⟩:=exq<|w5.heap.size;have P:Below w5.heap.size w5 w6:=by rw[b9];exact(Below.refl _ w5).alloc nlr _
  have d6:=qh (show w6.heap[k]?=some (.cells #[.int .i64 0,.int .i64 0,.string ⟨#[]⟩,.slice none 0 0] 25 (0,0)) by rw[b9,z];exact han w5 _);have b4:w.heap.size<=k:=by rw[z];exact a5.o.size
  have b3:L≠k:=by have:=lbk a7.o;omega
  have b2:mb≠k:=by have:=lbk G.o;omega
  rw[<-b9,<-z];clear b9 z;have C:=qh<|(P.block _ (lbk G.o)).trans G.o;have I:=qh<|(P.block _ (lbk a7.o)).trans a7.o;have B:=qh<|a5.o.trans (P.mono a5.o.size);clear P a5 G a7;refine g _ _ ⟨.inr (cells4 C.o).1.1,?_⟩;clear g K
  try simp only[Act.put,tryL]
  refine Aa.on 6 λK g=>?_;go_simp;refine(Gg D.kind _).mono ?_;rintro r Q⟨rfl,u⟩;have l:=qh<|(u.block _ (lbk C.o)).trans C.o;have H:=qh<|(u.block _ (lbk I.o)).trans I.o;have a4:=qh<|(u.block _ (lbk d6.o)).trans d6.o;have o:=qh<|B.o.trans (u.mono B.o.size);clear u B C I d6;refine g.out _ _ (.inr (cells4 l.o).1.1) ?_;clear g K
  try simp only[Act.put,tryL]
  refine Aa.on 7 λK g=>?_;go_simp;refine(ID Q (b5.o Q o.o) b7 m.o).mono ?_;rintro r S⟨s,rfl⟩;unfold AP;have p:=qh<|(s.block _ (lbk l.o)).trans l.o;have U:=qh<|(s.block _ (lbk H.o)).trans H.o;have E:=qh<|(s.block _ (lbk a4.o)).trans a4.o;have T:=qh<|o.o.trans (s.mono o.o.size);clear s o l H a4;refine g.out _ _ (.inr (cells4 p.o).1.1) ?_;clear g K
  try simp only[Act.put,tryL]
  refine Aa.tm 8 (cells4 p.o).1.1 ?_;refine Aa.tm 9 (cells4 p.o).1.1 ?_;refine Aa.tm 10 (cells4 p.o).1.1 ?_
  try simp only[Act.put,tryL]
  obtain⟨⟨a0,a1,a2,a3⟩,X⟩:=cells4 E.o;have z0:=X 0;have z1:=X 1;have z2:=X 2;have z3:=X 3;clear X;refine Aa.on 12 λK g=>?_;go_simp;obtain⟨A,d⟩:∃A,A=(((S.setCell ⟨k,0,none⟩ (.int .i64 0)).setCell ⟨k,1,none⟩ (.int .i64 0)).setCell (Ad k 2) (.string ⟨#[]⟩)).setCell (Ad k 3) (.slice none 0 0):=⟨_,rfl⟩;have a6:=qh ((show A.heap[mb]?=S.heap[mb]? by rw[d];exact CN b2 _ _ _ _).trans p.o);have N:=qh ((show A.heap[L]?=S.heap[L]? by rw[d];exact CN b3 _ _ _ _).trans U.o);have d2:=qh (show A.heap[k]?=some (.cells #[.int .i64 0,.int .i64 0,.string ⟨#[]⟩,.slice none 0 0] 25 (0,0)) by rw[d];exact AE S k _ _ _ _ E.o);have F:=qh (show Below w.heap.size w A by rw[d];exact Ax T.o b4 _ _ _ _);rw[<-d];clear d a0 a1 a2 a3 z0 z1 z2 z3 p U E T;refine g.out _ _ (.inr (cells4 a6.o).1.1) ?_;clear g K
  try simp only[Act.put,tryL]
  refine Aa.on 13 λK g=>?_;go_simp;refine g.out _ _ (.inl rfl) (Aa.dn ?_);clear g K;obtain⟨⟨r0,r1,r2,r3⟩,O⟩:=cells4 N.o;have f0:=O 0;have f1:=O 1;have f2:=O 2;have f3:=O 3;clear O
  go_wp2_with fail
  exact bodyPost_ret (AJ rfl _ (b:=L) rfl rfl (AE _ L _ _ _ _ N.o)) rfl ⟨Ax F.o b6 _ _ _ _,.inr ⟨λh=>absurd h.2 (by rw[m.o];decide),rfl⟩⟩
 replace m:=qh m
 go_wp2_with fail
 refine AD (λwk=>wk.cell? (Ad mb 0)=some (.int .i64 D.kind)) 13 (by kernel_rfl) ?_;rw[<-f8];clear f8;refine Aa.tm 0 (cells4 G.o).1.1 ?_;refine Aa.tm 1 (cells4 G.o).1.1 ?_;refine Aa.tm 2 (cells4 G.o).1.1 ?_;refine Aa.tm 3 (cells4 G.o).1.1 ?_;refine Aa.tm 4 (cells4 G.o).1.1 ?_;refine Aa.tm 5 (cells4 G.o).1.1 ?_
 try simp only[Act.put,tryL]
 refine Aa.pair (i:=6) (j:=11) (by kernel_rfl) (Bt rfl rfl λK g=>?_) (Bt rfl rfl λK g=>?_)
 ·go_simp;refine(Gg D.kind _).mono ?_;rintro r w6⟨rfl,P⟩;have C:=qh<|(P.block _ (lbk G.o)).trans G.o;have I:=qh<|(P.block _ (lbk a7.o)).trans a7.o;have B:=qh<|a5.o.trans (P.mono a5.o.size);clear P a5 G a7;refine g _ _ ⟨.inr (cells4 C.o).1.1,?_⟩;clear g K
  try simp only[Act.put,tryL]
  refine Aa.pair (i:=7) (j:=11) (by kernel_rfl) (Bt rfl rfl λK g=>?_) (Bt rfl rfl λK g=>?_)
  ·go_simp;refine(IE w6 (b5.o w6 B.o) (b5.o w6 B.o) b7 b7 (Ew HV.o.kind) (b8.o w6 B.o) ⟨m.o,m.o,Ex HV.o.kind⟩).mono ?_;rintro r Q⟨u,sv,R,rfl,c⟩;have c:=CJ c B.o.size;obtain⟨sa,sc,Z,_,_⟩:=Au c.top;rw[(BM HV.o.kind m.o).2.2.2.2.2]at Z;subst Z;have h3:=qh c;clear c;have l:=qh<|(u.block _ (lbk C.o)).trans C.o;have H:=qh<|(u.block _ (lbk I.o)).trans I.o;have o:=qh<|B.o.trans (u.mono B.o.size);clear u B C I;refine g _ _ ⟨.inr (cells4 l.o).1.1,?_⟩;clear g K
   try simp only[Act.put,tryL]
   refine Aa.tm 8 (cells4 l.o).1.1 ?_;refine Aa.tm 9 (cells4 l.o).1.1 ?_;refine Aa.tm 10 (cells4 l.o).1.1 ?_
   try simp only[Act.put,tryL]
   refine Aa.on 11 λK g=>?_;go_simp;obtain⟨S,d1⟩:=exq<|Q.alloc (.cells #[.int .i64 0,.int .i64 0,.string ⟨#[]⟩,.slice none 0 0] 25);obtain⟨k,z⟩:=exq<|Q.heap.size;have s:Below Q.heap.size Q S:=by rw[d1];exact(Below.refl _ Q).alloc nlr _
   have E:=qh (show S.heap[k]?=some (.cells #[.int .i64 0,.int .i64 0,.string ⟨#[]⟩,.slice none 0 0] 25 (0,0)) by rw[d1,z];exact han Q _);have b4:w.heap.size<=k:=by rw[z];exact o.o.size
   have b3:L≠k:=by have:=lbk H.o;omega
   have b2:mb≠k:=by have:=lbk l.o;omega
   rw[<-d1,<-z];clear d1 z;have p:=qh<|(s.block _ (lbk l.o)).trans l.o;have U:=qh<|(s.block _ (lbk H.o)).trans H.o;have d3:=qh<|UU h3.o s;have T:=qh<|o.o.trans (s.mono o.o.size);clear s o l H h3;refine g.out _ _ (.inr (cells4 p.o).1.1) ?_;clear g K
   try simp only[Act.put,tryL]
   obtain⟨⟨a0,a1,a2,a3⟩,X⟩:=cells4 E.o;have z0:=X 0;have z1:=X 1;have z2:=X 2;have z3:=X 3;clear X;refine Aa.on 12 λK g=>?_;go_simp;obtain⟨A,d⟩:∃A,A=(((S.setCell ⟨k,0,none⟩ (.int .i64 D.kind)).setCell (Ad k 1) (.int .i64 0)).setCell (Ad k 2) (.string (oneF D.kind))).setCell (Ad k 3) (.slice sa (na+1) sc):=⟨_,rfl⟩;have a6:=qh ((show A.heap[mb]?=S.heap[mb]? by rw[d];exact CN b2 _ _ _ _).trans p.o);have N:=qh ((show A.heap[L]?=S.heap[L]? by rw[d];exact CN b3 _ _ _ _).trans U.o);have d2:=qh (show A.heap[k]?=some (.cells #[.int .i64 D.kind,.int .i64 0,.string (oneF D.kind),.slice sa (na+1) sc] 25 (0,0)) by rw[d];exact AE S k _ _ _ _ E.o);have F:=qh (show Below w.heap.size w A by rw[d];exact Ax T.o b4 _ _ _ _);have e7:=qh (show OwM A w.heap.size (.slice sa (na+1) sc) (wrd D na x) R by rw[d];exact d3.o.box4 E.o _ _ _ _);rw[<-d];clear d a0 a1 a2 a3 z0 z1 z2 z3 p U E T d3;refine g.out _ _ (.inr (cells4 a6.o).1.1) ?_;clear g K
   try simp only[Act.put,tryL]
   refine Aa.on 13 λK g=>?_;go_simp;refine g.out _ _ (.inl rfl) (Aa.dn ?_);clear g K;obtain⟨⟨m0,m1,m2,m3⟩,_⟩:=cells4 a6.o;obtain⟨⟨a0,a1,a2,a3⟩,_⟩:=cells4 d2.o;have b1:Ma none A (.agg #[.int .i64 D.kind,.int .i64 0,.string (oneF D.kind),.slice sa (na+1) sc]) (wrd D na x):=by
    obtain⟨_,_,e1,e2,e3,_⟩:=BM (x:=x) HV.o.kind m.o;have h1:=e7.o.ma<|Below.refl _ A;rw[e1,e2,e3]at h1;exact h1
   have e5:=qh<|Cp A b1 (d8.o A F.o) (BM HV.o.kind m.o).2.1 d9.o (b8.o A F.o);clear b1
   go_wp2_with fail
   clear m0 m1 m2 m3 a0 a1 a2 a3;refine e5.o.mono ?_;rintro r d5⟨Y,hr⟩;have f9:=F.o.size;have J:=qh<|(Y.block _ (lbk N.o)).trans N.o;have a9:=qh<|F.o.trans (Y.mono F.o.size);clear Y F N;obtain⟨⟨r0,r1,r2,r3⟩,O⟩:=cells4 J.o;have f0:=O 0;have f1:=O 1;have f2:=O 2;have f3:=O 3;clear O
   rcases hr with⟨_,_,a8,⟨n,M,d4,sv,R',rfl,c⟩|⟨b0,rfl⟩⟩|⟨_,_,a8,rfl⟩|⟨f5,rfl⟩
   ·obtain⟨ta,tc,Z,_,_⟩:=Au c.top;subst Z;have e8:=qh<|CJ (c.box4 J.o (.int .i64 M.kind) (.int .i64 M.start) (.string M.lead) (.slice ta M.n tc)) f9;clear c;have e6:=qh d4;clear d4;clear a8
    go_wp2_with fail
    exact bodyPost_ret (AJ rfl _ (b:=L) rfl rfl (AE d5 L _ _ _ _ J.o)) rfl ⟨Ax a9.o b6 _ _ _ _,.inl ⟨HV.o,m.o,.inl ⟨n,M,e6.o,_,R',rfl,e8.o⟩⟩⟩
   ·have e4:=qh b0;clear b0;clear a8;unfold AP
    go_wp2_with fail
    exact bodyPost_ret (AJ rfl _ (b:=L) rfl rfl (AE d5 L _ _ _ _ J.o)) rfl ⟨Ax a9.o b6 _ _ _ _,.inl ⟨HV.o,m.o,.inr ⟨e4.o,rfl⟩⟩⟩
   ·exact absurd (BM (x:=x) HV.o.kind m.o).2.2.1 a8
   exact absurd ⟨(BM HV.o.kind m.o).1,HV.o⟩ f5
  go_simp;obtain⟨Q,d0⟩:=exq<|w6.alloc (.cells #[.int .i64 0,.int .i64 0,.string ⟨#[]⟩,.slice none 0 0] 25);obtain⟨k,z⟩:=exq<|w6.heap.size;have u:Below w6.heap.size w6 Q:=by rw[d0];exact(Below.refl _ w6).alloc nlr _
  have a4:=qh (show Q.heap[k]?=some (.cells #[.int .i64 0,.int .i64 0,.string ⟨#[]⟩,.slice none 0 0] 25 (0,0)) by rw[d0,z];exact han w6 _);have b4:w.heap.size<=k:=by rw[z];exact B.o.size
  have b3:L≠k:=by have:=lbk I.o;omega
  have b2:mb≠k:=by have:=lbk C.o;omega
  rw[<-d0,<-z];clear d0 z;have l:=qh<|(u.block _ (lbk C.o)).trans C.o;have H:=qh<|(u.block _ (lbk I.o)).trans I.o;have o:=qh<|B.o.trans (u.mono B.o.size);clear u B C I;refine g _ _ ⟨.inr (cells4 l.o).1.1,?_⟩;clear g K
  try simp only[Act.put,tryL]
  refine Aa.on 7 λK g=>?_;go_simp;refine(IE Q (b5.o Q o.o) (b5.o Q o.o) b7 b7 (Ew HV.o.kind) (b8.o Q o.o) ⟨m.o,m.o,Ex HV.o.kind⟩).mono ?_;rintro r S⟨s,sv,R,rfl,c⟩;have c:=CJ c o.o.size;obtain⟨sa,sc,Z,_,_⟩:=Au c.top;rw[(BM HV.o.kind m.o).2.2.2.2.2]at Z;subst Z;have d3:=qh c;clear c;have p:=qh<|(s.block _ (lbk l.o)).trans l.o;have U:=qh<|(s.block _ (lbk H.o)).trans H.o;have E:=qh<|(s.block _ (lbk a4.o)).trans a4.o;have T:=qh<|o.o.trans (s.mono o.o.size);clear s o l H a4;refine g.out _ _ (.inr (cells4 p.o).1.1) ?_;clear g K
  try simp only[Act.put,tryL]
  refine Aa.tm 8 (cells4 p.o).1.1 ?_;refine Aa.tm 9 (cells4 p.o).1.1 ?_;refine Aa.tm 10 (cells4 p.o).1.1 ?_
  try simp only[Act.put,tryL]
  obtain⟨⟨a0,a1,a2,a3⟩,X⟩:=cells4 E.o;have z0:=X 0;have z1:=X 1;have z2:=X 2;have z3:=X 3;clear X;refine Aa.on 12 λK g=>?_;go_simp;obtain⟨A,d⟩:∃A,A=(((S.setCell ⟨k,0,none⟩ (.int .i64 D.kind)).setCell (Ad k 1) (.int .i64 0)).setCell (Ad k 2) (.string (oneF D.kind))).setCell (Ad k 3) (.slice sa (na+1) sc):=⟨_,rfl⟩;have a6:=qh ((show A.heap[mb]?=S.heap[mb]? by rw[d];exact CN b2 _ _ _ _).trans p.o);have N:=qh ((show A.heap[L]?=S.heap[L]? by rw[d];exact CN b3 _ _ _ _).trans U.o);have d2:=qh (show A.heap[k]?=some (.cells #[.int .i64 D.kind,.int .i64 0,.string (oneF D.kind),.slice sa (na+1) sc] 25 (0,0)) by rw[d];exact AE S k _ _ _ _ E.o);have F:=qh (show Below w.heap.size w A by rw[d];exact Ax T.o b4 _ _ _ _);have e7:=qh (show OwM A w.heap.size (.slice sa (na+1) sc) (wrd D na x) R by rw[d];exact d3.o.box4 E.o _ _ _ _);rw[<-d];clear d a0 a1 a2 a3 z0 z1 z2 z3 p U E T d3;refine g.out _ _ (.inr (cells4 a6.o).1.1) ?_;clear g K
  try simp only[Act.put,tryL]
  refine Aa.on 13 λK g=>?_;go_simp;refine g.out _ _ (.inl rfl) (Aa.dn ?_);clear g K;obtain⟨⟨m0,m1,m2,m3⟩,_⟩:=cells4 a6.o;obtain⟨⟨a0,a1,a2,a3⟩,_⟩:=cells4 d2.o;have b1:Ma none A (.agg #[.int .i64 D.kind,.int .i64 0,.string (oneF D.kind),.slice sa (na+1) sc]) (wrd D na x):=by
   obtain⟨_,_,e1,e2,e3,_⟩:=BM (x:=x) HV.o.kind m.o;have h1:=e7.o.ma<|Below.refl _ A;rw[e1,e2,e3]at h1;exact h1
  have e5:=qh<|Cp A b1 (d8.o A F.o) (BM HV.o.kind m.o).2.1 d9.o (b8.o A F.o);clear b1
  go_wp2_with fail
  clear m0 m1 m2 m3 a0 a1 a2 a3;refine e5.o.mono ?_;rintro r d5⟨Y,hr⟩;have f9:=F.o.size;have J:=qh<|(Y.block _ (lbk N.o)).trans N.o;have a9:=qh<|F.o.trans (Y.mono F.o.size);clear Y F N;obtain⟨⟨r0,r1,r2,r3⟩,O⟩:=cells4 J.o;have f0:=O 0;have f1:=O 1;have f2:=O 2;have f3:=O 3;clear O
  rcases hr with⟨_,_,a8,⟨n,M,d4,sv,R',rfl,c⟩|⟨b0,rfl⟩⟩|⟨_,_,a8,rfl⟩|⟨f5,rfl⟩
  ·obtain⟨ta,tc,Z,_,_⟩:=Au c.top;subst Z;have e8:=qh<|CJ (c.box4 J.o (.int .i64 M.kind) (.int .i64 M.start) (.string M.lead) (.slice ta M.n tc)) f9;clear c;have e6:=qh d4;clear d4;clear a8
   go_wp2_with fail
   exact bodyPost_ret (AJ rfl _ (b:=L) rfl rfl (AE d5 L _ _ _ _ J.o)) rfl ⟨Ax a9.o b6 _ _ _ _,.inl ⟨HV.o,m.o,.inl ⟨n,M,e6.o,_,R',rfl,e8.o⟩⟩⟩
  ·have e4:=qh b0;clear b0;clear a8;unfold AP
   go_wp2_with fail
   exact bodyPost_ret (AJ rfl _ (b:=L) rfl rfl (AE d5 L _ _ _ _ J.o)) rfl ⟨Ax a9.o b6 _ _ _ _,.inl ⟨HV.o,m.o,.inr ⟨e4.o,rfl⟩⟩⟩
  ·exact absurd (BM (x:=x) HV.o.kind m.o).2.2.1 a8
  exact absurd ⟨(BM HV.o.kind m.o).1,HV.o⟩ f5
 go_simp;obtain⟨w6,b9⟩:=exq<|w5.alloc (.cells #[.int .i64 0,.int .i64 0,.string ⟨#[]⟩,.slice none 0 0] 25);obtain⟨k,z⟩:=exq<|w5.heap.size;have P:Below w5.heap.size w5 w6:=by rw[b9];exact(Below.refl _ w5).alloc nlr _
 have d6:=qh (show w6.heap[k]?=some (.cells #[.int .i64 0,.int .i64 0,.string ⟨#[]⟩,.slice none 0 0] 25 (0,0)) by rw[b9,z];exact han w5 _);have b4:w.heap.size<=k:=by rw[z];exact a5.o.size
 have b3:L≠k:=by have:=lbk a7.o;omega
 have b2:mb≠k:=by have:=lbk G.o;omega
 rw[<-b9,<-z];clear b9 z;have C:=qh<|(P.block _ (lbk G.o)).trans G.o;have I:=qh<|(P.block _ (lbk a7.o)).trans a7.o;have B:=qh<|a5.o.trans (P.mono a5.o.size);clear P a5 G a7;refine g _ _ ⟨.inr (cells4 C.o).1.1,?_⟩;clear g K
 try simp only[Act.put,tryL]
 refine Aa.on 6 λK g=>?_;go_simp;refine(Gg D.kind _).mono ?_;rintro r Q⟨rfl,u⟩;have l:=qh<|(u.block _ (lbk C.o)).trans C.o;have H:=qh<|(u.block _ (lbk I.o)).trans I.o;have a4:=qh<|(u.block _ (lbk d6.o)).trans d6.o;have o:=qh<|B.o.trans (u.mono B.o.size);clear u B C I d6;refine g.out _ _ (.inr (cells4 l.o).1.1) ?_;clear g K
 try simp only[Act.put,tryL]
 refine Aa.on 7 λK g=>?_;go_simp;refine(IE Q (b5.o Q o.o) (b5.o Q o.o) b7 b7 (Ew HV.o.kind) (b8.o Q o.o) ⟨m.o,m.o,Ex HV.o.kind⟩).mono ?_;rintro r S⟨s,sv,R,rfl,c⟩;have c:=CJ c o.o.size;obtain⟨sa,sc,Z,_,_⟩:=Au c.top;rw[(BM HV.o.kind m.o).2.2.2.2.2]at Z;subst Z;have d3:=qh c;clear c;have p:=qh<|(s.block _ (lbk l.o)).trans l.o;have U:=qh<|(s.block _ (lbk H.o)).trans H.o;have E:=qh<|(s.block _ (lbk a4.o)).trans a4.o;have T:=qh<|o.o.trans (s.mono o.o.size);clear s o l H a4;refine g.out _ _ (.inr (cells4 p.o).1.1) ?_;clear g K
 try simp only[Act.put,tryL]
 refine Aa.tm 8 (cells4 p.o).1.1 ?_;refine Aa.tm 9 (cells4 p.o).1.1 ?_;refine Aa.tm 10 (cells4 p.o).1.1 ?_
 try simp only[Act.put,tryL]
 obtain⟨⟨a0,a1,a2,a3⟩,X⟩:=cells4 E.o;have z0:=X 0;have z1:=X 1;have z2:=X 2;have z3:=X 3;clear X;refine Aa.on 12 λK g=>?_;go_simp;obtain⟨A,d⟩:∃A,A=(((S.setCell ⟨k,0,none⟩ (.int .i64 D.kind)).setCell (Ad k 1) (.int .i64 0)).setCell (Ad k 2) (.string (oneF D.kind))).setCell (Ad k 3) (.slice sa (na+1) sc):=⟨_,rfl⟩;have a6:=qh ((show A.heap[mb]?=S.heap[mb]? by rw[d];exact CN b2 _ _ _ _).trans p.o);have N:=qh ((show A.heap[L]?=S.heap[L]? by rw[d];exact CN b3 _ _ _ _).trans U.o);have d2:=qh (show A.heap[k]?=some (.cells #[.int .i64 D.kind,.int .i64 0,.string (oneF D.kind),.slice sa (na+1) sc] 25 (0,0)) by rw[d];exact AE S k _ _ _ _ E.o);have F:=qh (show Below w.heap.size w A by rw[d];exact Ax T.o b4 _ _ _ _);have e7:=qh (show OwM A w.heap.size (.slice sa (na+1) sc) (wrd D na x) R by rw[d];exact d3.o.box4 E.o _ _ _ _);rw[<-d];clear d a0 a1 a2 a3 z0 z1 z2 z3 p U E T d3;refine g.out _ _ (.inr (cells4 a6.o).1.1) ?_;clear g K
 try simp only[Act.put,tryL]
 refine Aa.on 13 λK g=>?_;go_simp;refine g.out _ _ (.inl rfl) (Aa.dn ?_);clear g K;obtain⟨⟨m0,m1,m2,m3⟩,_⟩:=cells4 a6.o;obtain⟨⟨a0,a1,a2,a3⟩,_⟩:=cells4 d2.o;have b1:Ma none A (.agg #[.int .i64 D.kind,.int .i64 0,.string (oneF D.kind),.slice sa (na+1) sc]) (wrd D na x):=by
  obtain⟨_,_,e1,e2,e3,_⟩:=BM (x:=x) HV.o.kind m.o;have h1:=e7.o.ma<|Below.refl _ A;rw[e1,e2,e3]at h1;exact h1
 have e5:=qh<|Cp A b1 (d8.o A F.o) (BM HV.o.kind m.o).2.1 d9.o (b8.o A F.o);clear b1
 go_wp2_with fail
 clear m0 m1 m2 m3 a0 a1 a2 a3;refine e5.o.mono ?_;rintro r d5⟨Y,hr⟩;have f9:=F.o.size;have J:=qh<|(Y.block _ (lbk N.o)).trans N.o;have a9:=qh<|F.o.trans (Y.mono F.o.size);clear Y F N;obtain⟨⟨r0,r1,r2,r3⟩,O⟩:=cells4 J.o;have f0:=O 0;have f1:=O 1;have f2:=O 2;have f3:=O 3;clear O
 rcases hr with⟨_,_,a8,⟨n,M,d4,sv,R',rfl,c⟩|⟨b0,rfl⟩⟩|⟨_,_,a8,rfl⟩|⟨f5,rfl⟩
 ·obtain⟨ta,tc,Z,_,_⟩:=Au c.top;subst Z;have e8:=qh<|CJ (c.box4 J.o (.int .i64 M.kind) (.int .i64 M.start) (.string M.lead) (.slice ta M.n tc)) f9;clear c;have e6:=qh d4;clear d4;clear a8
  go_wp2_with fail
  exact bodyPost_ret (AJ rfl _ (b:=L) rfl rfl (AE d5 L _ _ _ _ J.o)) rfl ⟨Ax a9.o b6 _ _ _ _,.inl ⟨HV.o,m.o,.inl ⟨n,M,e6.o,_,R',rfl,e8.o⟩⟩⟩
 ·have e4:=qh b0;clear b0;clear a8;unfold AP
  go_wp2_with fail
  exact bodyPost_ret (AJ rfl _ (b:=L) rfl rfl (AE d5 L _ _ _ _ J.o)) rfl ⟨Ax a9.o b6 _ _ _ _,.inl ⟨HV.o,m.o,.inr ⟨e4.o,rfl⟩⟩⟩
 ·exact absurd (BM (x:=x) HV.o.kind m.o).2.2.1 a8
 exact absurd ⟨(BM HV.o.kind m.o).1,HV.o⟩ f5
end
end Go.Proofs.YtpldocnhbdlgfaaGreatDoor
