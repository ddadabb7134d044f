/- Parts. -/
import Derived.Test.YtpldocnhbdlgfaaGreatDoorPb26
import Derived.Test.YtpldocnhbdlgfaaGreatDoorPb31
import Derived.Lib.SmallJoins
import Derived.Deep.SlicePairs
namespace Go.Proofs.YtpldocnhbdlgfaaGreatDoor
set_option maxRecDepth 100000
set_option linter.all false
set_option maxHeartbeats 16000000
open Go Tryz
section
open Go.RowKit Go.Deep
def frkA:MD:=⟨1,0,⟨#[]⟩,1,λ_=>⟨#[]⟩,λ_=>1,λ_ _=>2,λ_ _=>3,λ_ _=>⟨#[50]⟩,λ_ _=>0⟩
def frkD:MD:=(Ab frkA).arc 0 2 4 ⟨#[48]⟩ 1
def Tx(w:World):Calls prog 44 #[] w (LnE frkD w):=by
 obtain⟨U,S⟩:=exq<|w.alloc (.cells #[.int .i64 0,.int .i64 0,.string ⟨#[]⟩,.slice none 0 0] 25);obtain⟨w2,a6⟩:=exq<|U.alloc (.cells #[.int .i64 2,.int .i64 3,.string ⟨#[50]⟩,.int .i64 0] 59);have T:U.heap.size=w.heap.size+1:=by rw[S];simp
 obtain⟨I,d8⟩:=exq<|w.heap.size;obtain⟨xb,e3⟩:=exq<|w.heap.size+1;have e8:Below w.heap.size w U:=by rw[S];exact(Below.refl _ w).alloc nlr _
 have J:Below U.heap.size U w2:=by rw[a6];exact(Below.refl _ U).alloc nlr _
 have d3:U.heap[I]?=some (.cells #[.int .i64 0,.int .i64 0,.string ⟨#[]⟩,.slice none 0 0] 25 (0,0)):=by rw[S,d8];exact han w _
 have f9:=(J.block _ (lbk d3)).trans d3;have g7:w2.heap[xb]?=some (.cells #[.int .i64 2,.int .i64 3,.string ⟨#[50]⟩,.int .i64 0] 59 (0,0)):=by rw[e3,<-T,a6];exact han U _
 have a8:ArS none w2 (.slice (some (Ad xb 0)) 1 1) frkA 0:=Dk (D:=frkA) (i:=0) g7 Be (lt1 ⟨rfl,rfl,rfl,rfl⟩);have e4:=qh<|DW w2 a8 (by decide);have e9:=e8.trans (J.mono (show w.heap.size<=U.heap.size by omega));have h8:w.heap.size<=I:=by omega
 have b3:=qh f9;have W:=qh e9;clear f9 e9 d3 g7 a8 e8 J
 go_enter func44,ntmps44
 go_wp2_with fail
 rw[<-S,<-a6,<-e3,<-d8];clear S a6 d8 e3 T;refine e4.o.mono ?_;rintro r w3⟨b8,sv,R,rfl,P⟩;have P:=Dc P W.o.size;have a1:=(b8.block _ (lbk b3.o)).trans b3.o;have F:=W.o.trans<|b8.mono W.o.size;obtain⟨g,C,i2⟩:=HA P.top (by decide);subst i2;rw[show (Ab frkA).kind=1 from rfl,show (Ab frkA).start=0 from rfl,show (Ab frkA).lead=⟨#[48]⟩ from rfl,show (Ab frkA).n=2 from rfl];obtain⟨A,a5⟩:=exq<|w3.heap.size;obtain⟨w4,a7⟩:=exq<|w3.alloc (.cells #[.int .i64 1,.int .i64 0,.string ⟨#[48]⟩,.slice (some (Ad g 0)) 2 C] 25);have b9:Below w3.heap.size w3 w4:=by rw[a7];exact(Below.refl _ w3).alloc nlr _
 have d4:w4.heap[A]?=some (.cells #[.int .i64 1,.int .i64 0,.string ⟨#[48]⟩,.slice (some (Ad g 0)) 2 C] 25 (0,0)):=by rw[a7,a5];exact han w3 _
 obtain⟨m,e1⟩:=exq<|w4.drew;have L:Below w4.heap.size w4 m:=by rw[e1];exact(Below.refl _ w4).drew
 have G:Below w3.heap.size w3 m:=b9.trans<|L.mono b9.size;have a4:=(L.block _ (lbk d4)).trans d4;have g0:=(G.block _ (lbk a1)).trans a1;have O:OwM m w.heap.size (.slice (some (Ad g 0)) 2 C) (Ab frkA) R:=P.kept2 (Ag G none) (λ_ _=>by simp) (λ_ _ _ _=>by simp);have u:0<(Ab frkA).n:=by decide
 obtain⟨ra,rc,e0,_,_⟩:=Az<|O.row 0 u;have b7:=O.arcs_cell u;rw[e0]at b7;have h:m.cell? (Ad A 3)=some (.slice (some (Ad g 0)) 2 C)/\m.cell? (Ad g 1)=some (.slice ra 1 rc):=⟨(cells4 a4).1.2.2.2,b7⟩;obtain⟨i0,hi,g8,T,g9⟩:=Cs Hf;have f5:g<m.heap.size:=(World.ownsRow.lt O.top g rfl).2;have d5:=lbk a4;have b0:=F.trans<|G.mono F.size;have l:=qh O;have b5:=qh e0;have b4:=qh a4;have X:=qh g0;have b2:=qh b0;have HI:=qh hi;have h4:=qh g8;have h5:=qh T;have h6:=qh g9;have i3:w.heap.size<=A:=by rw[a5];exact F.size
 have i4:I≠A:=by have:=lbk a1;omega
 clear hi g8 T g9 O e0 a4 g0 b0 b7 b9 d4 L G P a1 F b8 e4 b3 W
 go_wp2_with fail
 refine AC (λwk=>wk.cell? (Ad A 3)=some (.slice (some (Ad g 0)) 2 C)/\wk.cell? (Ad g 1)=some (.slice ra 1 rc)) 12 (by kernel_rfl) ?_;rw[<-a5,<-a7,<-e1];clear e1 a7 a5;refine Aa.tm 0 h ?_;refine Aa.tm 1 h ?_;refine Aa.tm 2 h ?_;refine Aa.tm 3 h ?_;refine Aa.tm 4 h ?_;refine Aa.tm 5 h ?_;refine Aa.tm 6 h ?_;refine Aa.tm 7 h ?_
 try simp only[Act.put,tryL]
 refine Aa.on 8 λK hK=>?_;go_simp;obtain⟨Hy,Z⟩:=exq<|m.heap.size;obtain⟨wy,z⟩:=exq<|m.alloc (.cells #[.int .i64 2,.int .i64 4,.string ⟨#[48]⟩,.int .i64 1] 59);have s:Below m.heap.size m wy:=by rw[z];exact(Below.refl _ m).alloc nlr _
 have d7:wy.heap[Hy]?=some (.cells #[.int .i64 2,.int .i64 4,.string ⟨#[48]⟩,.int .i64 1] 59 (0,0)):=by rw[z,Z];exact han m _
 have e6:wy.cell? (Ad A 3)=some (.slice (some (Ad g 0)) 2 C)/\wy.cell? (Ad g 1)=some (.slice ra 1 rc):=⟨(s.cell (p:=(Ad A 3)) d5).trans h.1,(s.cell (p:=(Ad g 1)) f5).trans h.2⟩;have b1:wy.ownsRow w.heap.size 59 4 (.slice ra 1 rc) 1 (cat (arc4 (Ab frkA) 0) 1):=by
  rw[show (.slice ra 1 rc:Value)=R 0 from b5.o.symm,z];exact World.ownsRow.alloc (l.o.row 0 u) _
 have b6:w.heap.size<=wy.heap.size:=Nat.le_trans b2.o.size s.size;rw[<-z,<-Z];replace z:=qh z;replace d7:=qh d7;replace Z:=qh Z;replace s:=qh s;refine hK.out _ _ (.inr e6) ?_;clear hK K
 try simp only[Act.put,tryL]
 refine Aa.on 9 λK hK=>?_;refine wp_append_lies _ (.tmp 11) (.tmp 13) 61 rfl w.heap.size 59 i0 (.agg #[.int .i64 0,.int .i64 0,.string ⟨#[]⟩,.int .i64 0]) 4 40 underlying61 HI.o h4.o h5.o h6.o rfl (by omega) (.slice ra 1 rc) 1 _ (by simp[Act.eval]) b1 (Ad Hy 0) 1 1 [.int .i64 2,.int .i64 4,.string ⟨#[48]⟩,.int .i64 1] (by simp[Act.eval]) rfl (Cj (cs:=#[.int .i64 2,.int .i64 4,.string ⟨#[48]⟩,.int .i64 1]) d7.o) Hc (by omega) (by unfold maxLen;omega) (by omega) b6 _ rfl ?_;intro go cq we Q N e7 h9;have d:wy.grownBy we (R 0).ownBlock:=by rw[b5.o];exact N
 have a9:∀c,(Value.slice (some (Ad go 0)) (1+1) cq).ownBlock=some c->(R 0).ownBlock=some c\/m.heap.size<=c:=λc hc=>by
  have e:go=c:=by simpa [Value.ownBlock] using hc
  subst e
  rcases e7 with Y|Y
  ·exact .inl (by rw[b5.o];exact Y)
  exact .inr (by have:=s.o.size;omega)
 have a2:∀B,B<m.heap.size->(R 0).ownBlock≠some B->we.heap[B]?=m.heap[B]?:=λB Y h2=>(d.block B (Nat.lt_of_lt_of_le Y s.o.size) (λe=>h2 e.symm)).trans (s.o.block B Y);have d2:(R 0).ownBlock≠some g:=λe=>l.o.tne u e rfl;have d1:∀B j,B<m.heap.size->(R 0).ownBlock≠some B->we.cell? (Ad B j)=m.cell? (Ad B j):=λB j Y h2=>by simp only[World.cell?,a2 B Y h2]
 have d6:(R 0).ownBlock≠some A:=Ao (l.o.row 0 u) b4.o (by decide);have g6:(R 0).ownBlock≠some I:=Ao (l.o.row 0 u) X.o (by decide);have E:we.cell? (Ad A 3)=some (.slice (some (Ad g 0)) 2 C)/\we.cell? (Ad g 1)=some (.slice ra 1 rc):=⟨(d1 A 3 d5 d6).trans h.1,(d1 g _ f5 d2).trans h.2⟩;have h7:we.frozen? (Ad g 1)=false:=by
  have Y:we.ownsRow w.heap.size 63 2 (.slice (some (Ad g 0)) 2 C) 2 (cat (st2 (Ab frkA) R) 2):=AJ (by rw[z.o];exact World.ownsRow.alloc l.o.top _) d (λc hc e=>by
   have e2:g=c:=by simpa [Value.ownBlock] using hc
   subst e2;exact d2 e)
  exact Ex Y _
 have g3:=OwM.arc (a:=2) (b:=4) (x:=⟨#[48]⟩) (t:=1) l.o u Q (o:=.cells #[.int .i64 2,.int .i64 4,.string ⟨#[48]⟩,.int .i64 1] 59) (by rw[<-z.o];exact d) a9;have f4:w.heap.size<=g:=(World.ownsRow.lt l.o.top g rfl).1;have d0:Below w.heap.size m (we.setCell (Ad g 1) (.slice (some (Ad go 0)) (1+1) cq)):=((s.o.mono b2.o.size).grown d b6 (λk hk=>(World.ownsRow.lt (l.o.row 0 u) k hk).1)).setCell (p:=(Ad g 1)) f4 _;have f7:(Value.slice (some (Ad g 0)) 2 C).ownBlock≠some A:=Ao l.o.top b4.o (by decide);have f8:(Value.slice (some (Ad g 0)) 2 C).ownBlock≠some I:=Ao l.o.top X.o (by decide);have g2:A≠g:=λe=>f7 (by rw[e];rfl);have g5:I≠g:=λe=>f8 (by rw[e];rfl);obtain⟨wf,H⟩:=exq<|we.setCell ⟨g,1,none⟩ (.slice (some ⟨go,0,none⟩) (1+1) cq);have g1:wf.heap[A]?=some (.cells #[.int .i64 1,.int .i64 0,.string ⟨#[48]⟩,.slice (some (Ad g 0)) 2 C] 25 (0,0)):=by rw[H];exact(AM (p:=(Ad g 1)) g2 _).trans ((a2 A d5 d6).trans b4.o)
 have d9:wf.heap[I]?=some (.cells #[.int .i64 0,.int .i64 0,.string ⟨#[]⟩,.slice none 0 0] 25 (0,0)):=by rw[H];exact(AM (p:=(Ad g 1)) g5 _).trans ((a2 I (lbk X.o) g6).trans X.o)
 rw[<-H]at d0;have g4:OwM wf w.heap.size (.slice (some (Ad g 0)) 2 C) frkD (λi=>if i=0 then .slice (some (Ad go 0)) (1+1) cq else R i):=by rw[H];exact g3
 have h3:=qh g4;have h0:=qh<|b2.o.trans d0;have e5:=qh d9;clear Q N d e7 a9 h9 a2 d1 d2 d6 g6 b1 h e6 b6 f4 g3 g4 d0 f7 f8 g2 g5;refine hK.out _ _ (.inr E) ?_;clear hK K
 try simp only[Act.put,tryL]
 refine Aa.tm 10 E ?_;refine Aa.tm 11 E ?_
 try simp only[Act.put,tryL]
 refine Aa.on 12 λK hK=>?_;go_simp;rw[<-H];clear H;refine hK.out _ _ (.inl rfl) (Aa.dn ?_);clear hK K E h7;obtain⟨⟨m0,m1,m2,m3⟩,_⟩:=cells4 g1;obtain⟨⟨r0,r1,r2,r3⟩,rz⟩:=cells4 d9;have f0:=rz 0;have f1:=rz 1;have f2:=rz 2;have f3:=rz 3;clear rz g1 d9
 go_wp2_with fail
 exact bodyPost_ret (Oz rfl _ (b:=I) rfl (AE wf I _ _ _ _ e5.o)) rfl ⟨Ay h0.o h8 _ _ _ _,.slice (some (Ad g 0)) 2 C,_,rfl,h3.o.box4 e5.o (.int .i64 1) (.int .i64 0) (.string ⟨#[48]⟩) (.slice (some (Ad g 0)) 2 C)⟩
def NotLg(n:Nat)(Ds:Nat->MD)(m:Nat)(na:Nat->Nat):Prop:=(∀i,i<n->(Ds i).n<=12/\Ah (Ds i) (Ds i).n<=60)/\∀i,i<m->na i<=8
def LgE(n:Nat)(Ds:Nat->MD)(m:Nat)(na:Nat->Nat)(w:World)(r:Ending)(w':World):Prop:=Below w.heap.size w w'/\∃b:Bool,r=.returned (.bool b)/\(b=false->NotLg n Ds m na)
def TU{n m:Nat}{d:Nat->MD}{na:Nat->Nat}{lv wv:Value}(w:World)(hl:MsS w lv n d)(hw:WsS w wv m na)(hs:∀i,i<n->MSz (d i))(hm:m<=3)(g:∀i,i<m->na i<=140737488355328):
  Calls prog 12 #[lv,wv] w (LgE n d m na w):=by
 obtain⟨a,h0,b,B,F,rfl,h2,h3,h4,h5⟩:=hl;obtain⟨a',e7,b',g8,A,C,rfl,g2,g3,g4,g5⟩:=hw;have i7:(n:Int)<=9223372036854775807:=by unfold maxLen at h3;omega
 replace h5:=qh h5;replace g5:=qh g5;replace h4:=qh h4;have b0:=qh g4;clear g4;have HS:=qh hs;clear hs;have P:=qh g;clear g;have g9:=qh hm;clear h2 h3 g2 g3
 go_enter func12,ntmps12
 go_wp2_with fail
 go_loopw [5,6] (λy i W=>∃(j E:Nat),j<=m/\i=.int .i64 (j:Int)/\y=.int .i64 (E:Int)/\E=sM na j/\w=W) (λ_ i _=>m-(intOf i).toNat)
 case atStart=>exact⟨0,0,Nat.zero_le _,rfl,rfl,rfl,rfl⟩
 obtain⟨j,E,hj,rfl,rfl,o,rfl⟩:=hrel;have j1:E<=422212465065984:=by
  rw[o];exact Nat.le_trans (Gp j λi hi=>P.o i (by omega)) (by omega)
 replace o:=qh o;by_cases J:j<m
 ·have i4:(j:Int)<(m:Int):=by omega
  have f8:(0:Int)<=(j:Int):=by omega
  obtain rfl:=b0.o (by omega);obtain⟨O,c0⟩:=g5.o j J;have d8:=P.o j J;clear O;obtain⟨nj,z⟩:=exq<|na j;rw[<-z]at c0 d8;replace z:=qh z;generalize A j=aj at c0;generalize C j=cj at c0;have j0:IntKind.i64.wrap ((E:Int)+(nj:Int))=((E+nj:Nat):Int):=by rw[IntKind.wrap_i64];omega
  go_wp2;go_roundw
  case rel=>exact⟨j+1,E+nj,by omega,by go_num,by first|rfl|go_num,by rw[o.o,z.o];rfl,by first|rfl|trivial⟩
  simp[intOf];omega
 have i3:¬((j:Int)<(m:Int)):=by omega
 have b8:=qh (show j=m by omega);clear J
 go_wp2_with fail
 go_loopw [7] (λi W=>∃q:Nat,q<=n/\i=.int .i64 (q:Int)/\(∀l,l<q->(d l).n<=12/\Ah (d l) (d l).n<=60)/\Below w.heap.size w W) (λi _=>n-(intOf i).toNat)
 case atStart=>exact⟨0,Nat.zero_le _,rfl,λl hl=>by omega,blr⟩
 obtain⟨q,hq,rfl,a7,a4⟩:=hrel;have H:=qh a7;clear a7;have c:=qh a4;clear a4;by_cases a6:q<n
 rotate_left
 ·have e8:¬((q:Int)<(n:Int)):=by omega
  have b9:=qh (show q=n by omega);by_cases h8:(8:Int)<(E:Int)
  ·go_wp2;go_ret;exact⟨c.o,_,rfl,λh=>by simp[h8]at h⟩
  have h6:decide ((8:Int)<(E:Int))=false:=by simp;omega
  have HP:=qh (show NotLg n d m na from ⟨by rw[<-b9.o];exact H.o,λi hi=>by
   have h1:=OX (f:=na) m i hi;have h2:=o.o;rw[b8.o]at h2;omega⟩)
  go_wp2;go_ret;exact⟨c.o,_,rfl,λ_=>HP.o⟩
 have i8:(q:Int)<(n:Int):=by omega
 have g1:(0:Int)<=(q:Int):=by omega
 obtain rfl:=h4.o (by omega);obtain⟨O,k1,k2,k3,k4,k5⟩:=h5.o q a6;obtain⟨D,hD⟩:=exq<|d q;have N:=HS.o q a6;rw[<-hD]at k1 k2 k3 k5 N;obtain⟨sa,sc,sb,so,B1,C1,B2,O1,a9,e1,e2,e3,e4,e5⟩:=k5.open;rw[a9]at k4 k5;clear a9;unfold maxLen at e3;have h9:(D.n:Int)<=9223372036854775807:=by omega
 have HK:=qh<|show ∀W,Below w.heap.size w W->W.cell? (Ad b (B+q*4))=some (.int .i64 D.kind)/\W.cell? (Ad b (B+q*4+1))=some (.int .i64 D.start)/\W.cell? (Ad b (B+q*4+2))=some (.string D.lead)/\W.cell? (Ad b (B+q*4+3))=some (.slice sa D.n sc) from λW hb=>⟨(hb.cell (p:=(Ad b _)) O).trans k1,(hb.cell (p:=(Ad b _)) O).trans k2,(hb.cell (p:=(Ad b _)) O).trans k3,(hb.cell (p:=(Ad b _)) O).trans k4⟩;have d2:=qh<|show ∀W,Below w.heap.size w W->Ma none W (.agg #[.int .i64 D.kind,.int .i64 D.start,.string D.lead,.slice sa D.n sc]) D from λW hb=>⟨_,rfl,k5.kept (Ag hb none)⟩;replace N:=qh N;replace hD:=qh hD;have b2:=qh e1;have b3:=qh e4;have b4:=qh e5;clear O k1 k2 k3 k4 k5 e1 e2 e3 e4 e5;obtain⟨c0,c1,c2,c3⟩:=HK.o wr c.o;have i6:=N.o.lead;by_cases d3:(12:Int)<(D.n:Int)
 ·go_wp2;go_ret;exact⟨c.o,true,rfl,λh=>by cases h⟩
 have Y:decide ((12:Int)<(D.n:Int))=false:=by simp;omega
 have G:=qh<|LH wr (d2.o wr c.o) N.o (by omega);have b1:=qh (show D.n<=12 by omega);obtain⟨T,I⟩:=exq<|Ah D D.n;rw[<-I]at G;have R:=qh I;clear I d3
 go_wp2_with fail
 refine G.o.mono ?_;rintro r w2⟨rfl,g⟩;replace c:=qh<|c.o.trans (g.mono c.o.size);clear g c0 c1 c2 c3 G;obtain⟨c0,c1,c2,c3⟩:=HK.o w2 c.o;by_cases d5:(60:Int)<(T:Int)
 ·go_wp2;go_ret;exact⟨c.o,true,rfl,λh=>by cases h⟩
 have a1:decide ((60:Int)<(T:Int))=false:=by simp;omega
 have Q:=qh (show T<=60 by omega);clear d5;by_cases d4:(40:Int)<(D.lead.size:Int)
 ·go_wp2;go_ret;exact⟨c.o,true,rfl,λh=>by cases h⟩
 have Z:decide ((40:Int)<(D.lead.size:Int))=false:=by simp;omega
 clear d4;have S:=qh (show ∀l,l<q+1->(d l).n<=12/\Ah (d l) (d l).n<=60 from λl hl=>by
  by_cases e:l=q
  ·rw[e,<-hD.o,<-R.o];exact⟨b1.o,Q.o⟩
  exact H.o l (by omega))
 clear H R Q
 go_wp2_with fail
 clear Y a1 Z
 go_loopw [8] (λi W=>∃s:Nat,s<=D.n/\i=.int .i64 (s:Int)/\w2=W) (λi _=>D.n-(intOf i).toNat)
 case atStart=>exact⟨0,Nat.zero_le _,rfl,rfl⟩
 obtain⟨s,hs,rfl,rfl⟩:=hrel;by_cases d9:s<D.n
 rotate_left
 ·have e9:¬((s:Int)<(D.n:Int)):=by omega
  go_wp2;go_roundw
  case rel=>exact⟨q+1,by omega,by go_num,S.o,c.o⟩
  simp[intOf];omega
 have i9:(s:Int)<(D.n:Int):=by omega
 have g6:(0:Int)<=(s:Int):=by omega
 obtain rfl:=b2.o (by omega);have a8:=(b3.o (by omega)).1;obtain⟨f1,U,f3,f4,X,f6,f7⟩:=b4.o s d9;have d0:=(c.o.cell (p:=(Ad sb _)) a8).trans f1;have d1:=(c.o.cell (p:=(Ad sb _)) a8).trans U;unfold maxLen at f4;obtain⟨nd,K⟩:=exq<|D.na s;rw[<-K]at d1 f3;have g0:(nd:Int)<=9223372036854775807:=by omega
 generalize C1 s=cs at d1 f3 f4;obtain⟨ax,a2⟩:=exq<|B1 s;rw[<-a2]at d1 X;rw[<-K]at X f6 f7;obtain⟨bx,u⟩:=exq<|B2 s;obtain⟨ox,L⟩:=exq<|O1 s;rw[<-u,<-L]at X;rw[<-u]at f6;rw[<-u,<-L]at f7;have b5:=qh X;have b6:=qh f6;have b7:=qh f7;clear f1 U f3 f4 X f6 f7 a2 u L K;have i2:=N.o.fin s;by_cases d6:(40:Int)<((D.fin s).size:Int)
 ·go_wp2;go_ret;exact⟨c.o,true,rfl,λh=>by cases h⟩
 have a5:decide ((40:Int)<((D.fin s).size:Int))=false:=by simp;omega
 clear d6
 go_wp2_with fail
 clear a5 d0
 go_loopw [9] (λi W=>∃k:Nat,k<=nd/\i=.int .i64 (k:Int)/\w2=W) (λi _=>nd-(intOf i).toNat)
 case atStart=>exact⟨0,Nat.zero_le _,rfl,rfl⟩
 obtain⟨k,hk,rfl,rfl⟩:=hrel;by_cases d7:k<nd
 rotate_left
 ·have f0:¬((k:Int)<(nd:Int)):=by omega
  go_wp2;go_roundw
  case rel=>exact⟨s+1,by omega,by go_num,by first|rfl|trivial⟩
  simp[intOf];omega
 have i5:(k:Int)<(nd:Int):=by omega
 have f9:(0:Int)<=(k:Int):=by omega
 obtain rfl:=b5.o (by omega);have e6:=(b6.o (by omega)).1;obtain⟨_,_,U,_⟩:=b7.o k d7;have u2:=(c.o.cell (p:=(Ad bx _)) e6).trans U;clear U;have h7:=N.o.aw s k;by_cases e0:(40:Int)<((D.aw s k).size:Int)
 ·go_wp2;go_ret;exact⟨c.o,true,rfl,λh=>by cases h⟩
 have g7:decide ((40:Int)<((D.aw s k).size:Int))=false:=by simp;omega
 clear e0;go_wp2;go_roundw
 case rel=>exact⟨k+1,by omega,by go_num,by first|rfl|trivial⟩
 simp[intOf];omega
def Yz{n m:Nat}{v v':Value}{x y:Nat->Int}(w:World)(Y:Si none w v n x)(Z:Si none w v' m y)(hn:(n:Int)<=9223372036854775806)(a6:(m:Int)<=9223372036854775806):
  Calls prog 29 #[v,v'] w (λr w'=>(∃c:Int,r=.returned (.int .i64 c)/\(c=0↔eqB n m x y=true))/\Below w.heap.size w w'):=by
 obtain⟨a,a1,b,D,rfl,S,hc,hm,hb,k⟩:=Y.open;obtain⟨a',W,P,u,rfl,G,a2,I,H,l⟩:=Z.open;unfold maxLen at hm I;clear Y Z;replace S:=qh S;replace hb:=qh hb;replace k:=qh k;have L:=qh G;clear G;have N:=qh H;clear H;have O:=qh l;clear l;by_cases J:n=m
 ·subst J
  go_enter func29,ntmps29
  go_wp2_with fail
  go_loopw [5] (λi wr=>∃q:Nat,q<=n/\i=.int .i64 (q:Int)/\(∀j,j<q->x j=y j)/\Below w.heap.size w wr) (λi _=>n-(intOf i).toNat)
  case atStart=>exact⟨0,Nat.zero_le _,rfl,λj hj=>by omega,blr⟩
  obtain⟨q,hq,rfl,d,g⟩:=hrel;replace g:=qh g;have F:=qh d;clear d;by_cases z:q<n
  ·have a8:(q:Int)<(n:Int):=by omega
   have X:(0:Int)<=(q:Int):=by omega
   obtain rfl:=S.o (by omega);obtain rfl:=L.o (by omega);have c0:=(g.o.cell (p:=(Ad b (D+q))) (hb.o (by omega)).1).trans (k.o q z);have c1:=(g.o.cell (p:=(Ad P (u+q))) (N.o (by omega)).1).trans (O.o q z);obtain⟨A,o⟩:=exq<|x q;obtain⟨B,s⟩:=exq<|y q;rw[<-o]at c0;rw[<-s]at c1;replace o:=qh o;replace s:=qh s;by_cases K:A<B
   ·have d:¬eqB n n x y=true:=λh=>by have:=(ER.1 h).2 q z;rw[<-o.o,<-s.o]at this;omega
    have E:=qh d;clear d
    go_wp2_with fail
    go_quiet (fail)
    go_wp2;go_ret;exact⟨⟨-1,rfl,⟨λh=>(by cases h),λh=>absurd h E.o⟩⟩,below_drewN g.o _⟩
   have U:decide (A<B)=false:=by simp;omega
   by_cases hg:B<A
   ·have d:¬eqB n n x y=true:=λh=>by have:=(ER.1 h).2 q z;rw[<-o.o,<-s.o]at this;omega
    have E:=qh d;clear d;have HL:=qh K;clear K
    go_wp2_with fail
    go_quiet (fail)
    have Q:(wr.drewN nq).cell? (Ad b (D+q))=some (.int .i64 A):=c0;have R:(wr.drewN nq).cell? (Ad P (u+q))=some (.int .i64 B):=c1
    go_wp2_with fail
    go_quiet (fail)
    go_wp2;go_ret;exact⟨⟨1,rfl,⟨λh=>(by cases h),λh=>absurd h E.o⟩⟩,below_drewN (below_drewN g.o _) _⟩
   have a4:decide (B<A)=false:=by simp;omega
   have T:A=B:=by omega
   replace T:=qh T;clear K hg
   go_wp2_with fail
   go_quiet (fail)
   have Q:(wr.drewN nq).cell? (Ad b (D+q))=some (.int .i64 A):=c0;have R:(wr.drewN nq).cell? (Ad P (u+q))=some (.int .i64 B):=c1
   go_wp2_with fail
   go_quiet (fail)
   go_wp2;go_roundw
   case rel =>
    refine⟨q+1,by omega,by go_num,λj hj=>?_,below_drewN g.o _⟩;by_cases e:j=q
    ·subst e;rw[<-o.o,<-s.o];exact T.o
    exact F.o j (by omega)
   simp[intOf];omega
  have C:q=n:=by omega
  have a5:¬((q:Int)<(n:Int)):=by omega
  replace C:=qh C;go_wp2;go_ret;exact⟨⟨0,rfl,⟨λ_=>ER.2 ⟨rfl,λi hi=>F.o i (by rw[C.o];exact hi)⟩,λ_=>rfl⟩⟩,g.o⟩
 have a7:¬(n:Int)=(m:Int):=by omega
 have d:¬eqB n m x y=true:=λh=>J (ER.1 h).1;have E:=qh d;clear d;by_cases K:(n:Int)<(m:Int)
 ·go_enter func29,ntmps29
  go_wp2;go_ret;exact⟨⟨-1,rfl,⟨λh=>(by cases h),λh=>absurd h E.o⟩⟩,blr⟩
 have U:decide ((n:Int)<(m:Int))=false:=by simp;omega
 go_enter func29,ntmps29
 go_wp2;go_ret;exact⟨⟨1,rfl,⟨λh=>(by cases h),λh=>absurd h E.o⟩⟩,blr⟩
end
section
open Go.RowKit Go.Deep Go.ChangeShapes Go.WideShapes
end
section
open Go.RowKit Go.Deep Go.ChangeShapes Go.WideShapes Go.Joins
variable{e t:TypeId}{W:World}{v:Value}
theorem Qp{H:Type}{P:Program}{e:TypeId}{d:DataW H}{n:Nat}:∀{ds:List (DataW H)},d ∈ ds->n ∈ d.weights P e->n ∈ DataW.weightsAll P e ds
 |d0::r,h,hn=>by
  simp only[DataW.weightsAll,List.mem_append]
  rcases List.mem_cons.1 h with rfl|h
  ·exact .inl hn
  exact .inr<|Qp h hn
def KM{H:Type}{c d:List (DataW H)}(i:prog.underlying t=some (.slice e))(g:1<=prog.bytesOf e){b:Nat}(hb:∀m ∈ (DataW.slice c d).weights prog t,m<=b):c.length<=b:=by
 have h:=hb ((c.length+d.length)*prog.bytesOf e) (by simp[DataW.weights,i]);have:=Nat.le_mul_of_pos_right (c.length+d.length) g;omega
def YF{H:Type}{c i:List (DataW H)}{d:DataW H}{m:Nat}(h:prog.underlying t=some (.slice e))(hd:d ∈ c)(g:m ∈ d.weights prog e):m ∈ (DataW.slice c i).weights prog t:=by
 simp only[DataW.weights,h,List.mem_cons,List.mem_append];exact .inr<|.inl (Qp hd g)
def Rb{H:Type}{enc:TypeId × Value->H}{o:Bool}{l:Nat}{x:DataW H × List MemPlace}(h:DataW.trod enc prog W 0 (λ_=>true) o l 61 [v]=some x):
  ∃(n:Nat) (fi fo ft:Nat->Int) (fw:Nat->ByteArray),(∀(D:MD) (i:Nat),D.na i=n->D.ain i=fi->D.aout i=fo->D.aw i=fw->D.ato i=ft->ArS none W v D i)/\(∀j,(fw j).size<=maxLen)/\
   ∀b,(∀m ∈ x.1.weights prog 61,m<=b)->n<=b:=by
 rcases open_slice underlying61 h with⟨g,_⟩|⟨a,len,X,m,n',D,Pl,g,_,hl,P,s,I,hx⟩
 ·simp only[List.cons.injEq,and_true]at g;exact⟨0,λ_=>0,λ_=>0,λ_=>0,λ_=>⟨#[]⟩,λD i C _ _ _ _=>.inl ⟨C,none,0,g,Nat.zero_le _⟩,λ_=>Nat.zero_le _,λ_ _=>Nat.zero_le _⟩
 simp only[List.cons.injEq,and_true]at g;simp only[if_true]at s;subst s;have c4:prog.cellsOf 59=4:=by kernel_rfl
 have Y:prog.cellsOf 3=1:=by kernel_rfl
 have Z:prog.cellsOf 9=1:=by kernel_rfl
 classical
 have d:∀i,∃t:Int × Int × ByteArray × Int,t.2.2.1.size<=maxLen/\(i<m->W.cell? (a.add (i*4))=some (.int .i64 t.1)/\W.cell? (a.add (i*4+1))=some (.int .i64 t.2.1)/\W.cell? (a.add (i*4+2))=some (.string t.2.2.1)/\W.cell? (a.add (i*4+3))=some (.int .i64 t.2.2.2)):=λi=>by
  by_cases hi:i<m
  ·obtain⟨B,A,E⟩:=hx i hi;rw[c4]at A;obtain⟨_,p,c⟩:=World.cells?_some A;obtain⟨y0,y1,y2,y3,k,_,_,K,L,N,O⟩:=trod_struct4 underlying59 E
   match B,p with
   | [v0,v1,v2,v3],_ =>
    simp only[Y,Z,List.drop_zero,List.drop_succ_cons,List.take_succ_cons,List.take_zero]at K L N O;obtain⟨z0,e0,_⟩:=DataW.trod_int underlying3 K;obtain⟨R,e1,_⟩:=DataW.trod_int underlying3 L;obtain⟨S,e2,_,G⟩:=DataW.trod_string underlying9 N;obtain⟨U,e3,_⟩:=DataW.trod_int underlying3 O;obtain rfl:v0=.int .i64 z0:=by simpa using e0
    obtain rfl:v1=.int .i64 R:=by simpa using e1
    obtain rfl:v2=.string S:=by simpa using e2
    obtain rfl:v3=.int .i64 U:=by simpa using e3
    have z:=c 0 (by omega);have k1:=c 1 (by omega);have k2:=c 2 (by omega);have k3:=c 3 (by omega);rw[add_add]at z k1 k2 k3;exact⟨(z0,R,S,U),G,λ_=>⟨by simpa using z,by simpa using k1,by simpa using k2,by simpa using k3⟩⟩
  exact⟨(0,0,⟨#[]⟩,0),Nat.zero_le _,λh=>absurd h hi⟩
 obtain⟨T,F⟩:∃T:Nat->Int × Int × ByteArray × Int,∀i,(T i).2.2.1.size<=maxLen/\(i<m->W.cell? (a.add (i*4))=some (.int .i64 (T i).1)/\W.cell? (a.add (i*4+1))=some (.int .i64 (T i).2.1)/\W.cell? (a.add (i*4+2))=some (.string (T i).2.2.1)/\W.cell? (a.add (i*4+3))=some (.int .i64 (T i).2.2.2)) :=
  ⟨λi=>Classical.choose (d i),λi=>Classical.choose_spec (d i)⟩
 refine⟨len,λi=>(T i).1,λi=>(T i).2.1,λi=>(T i).2.2.2,λi=>(T i).2.2.1,λD i u A E h3 h4=>?_,λj=>(F j).1,λb hb=>?_⟩
 ·by_cases C:len=0
  ·rw[C]at u g;exact .inl ⟨u,some a,m,g,P⟩
  have c0:=((F 0).2 (by omega)).1;have Q:a.spot=none:=by simpa [Addr.add] using World.cell?_spot c0
  obtain⟨b,J,sp⟩:=a;simp only at Q;subst Q;refine .inr ⟨b,J,m,by rw[u];exact g,⟨?_,by simp⟩,by rw[u];exact hl,P,λj hj=>?_⟩
  ·have:=World.block_lt_of_cell? _ _ c0;rw[Addr.add_lit]at this;exact this
  rw[u]at hj;obtain⟨z,k1,k2,k3⟩:=(F j).2 (by omega);rw[Addr.add_lit]at z k1 k2 k3;rw[A,E,h3,h4];exact⟨z,by rw[Nat.add_assoc];exact k1,by rw[Nat.add_assoc];exact k2,by rw[Nat.add_assoc];exact k3⟩
 rw[I]at hb;have:=KM underlying61 (by decide +kernel) hb
 simpa using this
def Re{H:Type}{enc:TypeId × Value->H}{r:Reach}{Q:Nat}{l:Bool}{d:DataW H}{p:List MemPlace}(hv:Value.okWide prog W r Q 25 v)(h:DataW.Trod enc prog W 0 (λ_=>true) l 25 v d p)
  (hw:∀m ∈ d.weights prog 25,m<=reachBytes):∃D,Ma none W v D/\MSz D:=by
 obtain⟨v0,v1,v2,v3,y0,y1,y2,y3,n,rfl,rfl,rfl,t0,t1,t2,t3⟩:=open_agg4 underlying25 (by kernel_rfl) (by kernel_rfl) hv h;obtain⟨z0,S,_,w0⟩:=DataW.trod_int underlying3 t0;obtain⟨I,T,_,w1⟩:=DataW.trod_int underlying3 t1;obtain⟨J,U,_,O⟩:=DataW.trod_string underlying9 t2;obtain rfl:v0=.int .i64 z0:=by simpa using S
 obtain rfl:v1=.int .i64 I:=by simpa using T
 obtain rfl:v2=.string J:=by simpa using U
 have g:∀m ∈ y3.1.weights prog 23,m<=reachBytes:=λm B=>hw m (by
  simp only[DataW.weights,underlying25,DataW.weightsEach,List.map_cons,List.mem_append,List.map_nil];exact .inr (.inr (.inr (.inl B))))
 have z:-9223372036854775808<=z0/\z0<=9223372036854775807:=by
  simp[Lit.wf,IntKind.min,IntKind.max,IntKind.signed,IntKind.bits]at w0;omega
 have L:reachBytes<=140737488355328:=by decide
 rcases open_slice_pairs underlying23 underlying63 (by kernel_rfl) rfl rfl (by kernel_rfl) (by kernel_rfl) t3 with⟨k,_⟩|⟨a,len,R,m,n',P,K,D0,D1,P0,P1,k,_,hl,B,u,A,E⟩
 ·simp only[List.cons.injEq,and_true]at k;exact⟨{ kind:=z0,start:=I,lead:=J,n:=0,fin:=λ_=>⟨#[]⟩,na:=λ_=>0,ain:=λ_ _=>0,aout:=λ_ _=>0,aw:=λ_ _=>⟨#[]⟩,ato:=λ_ _=>0 },⟨_,rfl,.inl ⟨rfl,none,0,k,Nat.zero_le _⟩⟩,
   ⟨O,λ_=>Nat.zero_le _,λ_ _=>Nat.zero_le _,λ_=>Nat.zero_le _,Nat.zero_le _,z⟩⟩
 simp only[List.cons.injEq,and_true]at k;simp only[if_true]at u;subst u
 classical
 have c:∀i,∃t:ByteArray × Nat × (Nat->Int) × (Nat->Int) × (Nat->Int) × (Nat->ByteArray),t.1.size<=maxLen/\(∀j,(t.2.2.2.2.2 j).size<=maxLen)/\t.2.1<=reachBytes/\
   (i<len->P i=.string t.1/\∀(D:MD) (j:Nat),D.na j=t.2.1->D.ain j=t.2.2.1->D.aout j=t.2.2.2.1->D.aw j=t.2.2.2.2.2->D.ato j=t.2.2.2.2.1->ArS none W (K i) D j):=λi=>by
  by_cases hi:i<len
  ·obtain⟨_,_,g0,g1⟩:=E i (by omega);obtain⟨s,e,_,C⟩:=DataW.trod_string underlying9 g0;obtain⟨na,X,Y,Z,fw,h1,h2,h3⟩:=Rb g1;refine⟨(s,na,X,Y,Z,fw),C,h2,h3 _ λq hq=>g q ?_,λ_=>⟨by simpa using e,h1⟩⟩;rw[A];refine YF underlying23 (List.mem_map.2 ⟨i,List.mem_range.2 hi,rfl⟩) ?_;simp only[DataW.weights,underlying63,DataW.weightsEach,List.map_cons,List.mem_append,List.map_nil];exact .inr<|.inl hq
  exact⟨(⟨#[]⟩,0,λ_=>0,λ_=>0,λ_=>0,λ_=>⟨#[]⟩),Nat.zero_le _,λ_=>Nat.zero_le _,Nat.zero_le _,λh=>absurd h hi⟩
 have o:len<=reachBytes:=by
  rw[A]at g;have:=KM underlying23 (by decide +kernel) g
  simpa using this
 refine⟨{ kind:=z0,start:=I,lead:=J,n:=len,fin:=λi=>(Classical.choose (c i)).1,na:=λi=>(Classical.choose (c i)).2.1,ain:=λi=>(Classical.choose (c i)).2.2.1,aout:=λi=>(Classical.choose (c i)).2.2.2.1,aw:=λi=>(Classical.choose (c i)).2.2.2.2.2,ato:=λi=>(Classical.choose (c i)).2.2.2.2.1 },⟨_,rfl,?_⟩,
  ⟨O,λi=>(Classical.choose_spec (c i)).1,λi=>(Classical.choose_spec (c i)).2.1,λi=>Nat.le_trans (Classical.choose_spec (c i)).2.2.1 L,Nat.le_trans o L,z⟩⟩
 by_cases h0:len=0
 ·subst h0;exact .inl ⟨rfl,some a,m,k,B⟩
 have c0:=(E 0 (by omega)).1;have C:a.spot=none:=by simpa [Addr.add] using World.cell?_spot c0
 obtain⟨b,G,sp⟩:=a;simp only at C;subst C;refine .inr ⟨b,G,m,K,k,⟨?_,by simp⟩,hl,B,λj N=>?_⟩
 ·have:=World.block_lt_of_cell? _ _ c0;rw[Addr.add_lit]at this;exact this
 obtain⟨F,k1,_,_⟩:=E j (by have:j<len:=N;omega);obtain⟨u1,u2⟩:=(Classical.choose_spec (c j)).2.2.2 N;rw[Addr.add_lit]at F k1;rw[u1]at F;exact⟨F,by rw[Nat.add_assoc];exact k1,u2 _ j rfl rfl rfl rfl rfl⟩
end
section
open Go.RowKit Go.Deep Go.ChangeShapes Go.WideShapes Go.Joins
variable{W:World}{v:Value}
def IV{H:Type}{enc:TypeId × Value->H}{k:Bool}{g:Nat}{x:DataW H × List MemPlace}(h:DataW.trod enc prog W 0 (λ_=>true) k g 26 [v]=some x):
  ∃(n:Nat) (wk:Nat->Int),Si none W v n wk/\∀b,(∀m ∈ x.1.weights prog 26,m<=b)->n<=b:=by
 rcases open_slice1 underlying26 (by kernel_rfl) h with⟨d,_⟩|⟨a,len,B,m,I,V,D,Pl,d,_,E,u,l,p,o⟩
 ·simp only[List.cons.injEq,and_true]at d;exact⟨0,λ_=>0,.inl ⟨rfl,none,0,d,Nat.zero_le _⟩,λ_ _=>Nat.zero_le _⟩
 simp only[List.cons.injEq,and_true]at d;simp only[if_true]at l;subst l
 classical
 have c:∀i,∃z:Int,i<m->V i=.int .i64 z:=λi=>by
  by_cases hi:i<m
  ·obtain⟨z,F,_⟩:=DataW.trod_int underlying3 (o i hi).2;exact⟨z,λ_=>by simpa using F⟩
  exact⟨0,λh=>absurd h hi⟩
 refine⟨len,λi=>Classical.choose (c i),?_,λb hb=>?_⟩
 ·by_cases C:len=0
  ·subst C;exact .inl ⟨rfl,some a,m,d,u⟩
  have c0:=(o 0 (by omega)).1;have A:a.spot=none:=by simpa [Addr.add] using World.cell?_spot c0
  obtain⟨b,s,J⟩:=a;simp only at A;subst A;refine .inr ⟨b,s,m,d,⟨?_,by simp⟩,E,u,λj G=>?_⟩
  ·have:=World.block_lt_of_cell? _ _ c0;rw[Addr.add_lit]at this;exact this
  have:=(o j (by omega)).1;rw[Addr.add_lit,Classical.choose_spec (c j) (by omega)]at this;exact this
 rw[p]at hb;have:=KM underlying26 (by decide +kernel) hb
 simpa using this
def reach47:reachBytes<=140737488355328:=by decide
def Rf{H:Type}{enc:TypeId × Value->H}{r:Reach}{i:Nat}{c:Bool}{d:DataW H}{p:List MemPlace}(A:Value.okWide prog W r i 28 v)(h:DataW.Trod enc prog W 0 (λ_=>true) c 28 v d p)
  (j:∀m ∈ d.weights prog 28,m<=reachBytes):∃(na nb nc:Nat) (x y z:Nat->Int) (k l o:Value),v=.agg #[k,l,o]/\(Si none W k na x/\na<=140737488355328)/\(Si none W l nb y/\nb<=140737488355328)/\Si none W o nc z/\nc<=140737488355328:=by
 obtain⟨B,v1,C,D,E,F,n,rfl,rfl,rfl,t0,t1,t2⟩:=open_agg3 underlying28 (by kernel_rfl) (by kernel_rfl) A h;obtain⟨na,x,s0,i⟩:=IV t0;obtain⟨nb,y,s1,s⟩:=IV t1;obtain⟨nc,z,s2,u⟩:=IV t2;refine⟨na,nb,nc,x,y,z,B,v1,C,rfl,⟨s0,Nat.le_trans (i _ λm g=>j m ?_) reach47⟩,⟨s1,Nat.le_trans (s _ λm g=>j m ?_) reach47⟩,s2,Nat.le_trans (u _ λm g=>j m ?_) reach47⟩
 ·simp only[DataW.weights,underlying28,DataW.weightsEach,List.map_cons,List.mem_append,List.map_nil];exact .inl g
 ·simp only[DataW.weights,underlying28,DataW.weightsEach,List.map_cons,List.mem_append,List.map_nil];exact .inr<|.inl g
 simp only[DataW.weights,underlying28,DataW.weightsEach,List.map_cons,List.mem_append,List.map_nil];exact .inr<|.inr (.inl g)
end
end Go.Proofs.YtpldocnhbdlgfaaGreatDoor
