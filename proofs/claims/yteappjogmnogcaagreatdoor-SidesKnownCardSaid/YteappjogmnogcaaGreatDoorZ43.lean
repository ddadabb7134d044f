/- Parts. -/
import Derived.Test.YteappjogmnogcaaGreatDoorZ39
namespace Go.Proofs.YteappjogmnogcaaGreatDoor
set_option maxRecDepth 100000
set_option linter.all false
set_option maxHeartbeats 16000000
open Go Tryz
section
open Go.RowKit Go.Deep
def NewB(w:World)(r:Ending)(w':World):Prop:=Below w.heap.size w w'/\∃g h,w.heap.size<=g/\w.heap.size<=h/\g≠h/\r=.returned (.agg #[.int .i64 1,.int .i64 0,.string ⟨#[48]⟩,.slice (some (Ad g 0)) 2 2])/\
 w'.heap[g]?=some (.cells #[.string ⟨#[]⟩,.slice (some (Ad h 0)) 2 2,.string ⟨#[48]⟩,.slice none 0 0] 57 (0,0))/\
 w'.heap[h]?=some (.cells #[.int .i64 1,.int .i64 2,.string ⟨#[49]⟩,.int .i64 1,.int .i64 1,.int .i64 3,.string ⟨#[50]⟩,.int .i64 1] 59 (0,0))
def VS(w:World):Calls prog 39 #[] w (NewB w):=by
 go_enter func39,ntmps39
 go_wp2_with fail
 obtain⟨l,c⟩:∃l,l=[Obj.cells #[.int .i64 1,.int .i64 0,.string ⟨#[48]⟩,.slice (some (Ad (w.heap.size+2) 0)) 2 2] 24,.cells #[.int .i64 1,.int .i64 2,.string ⟨#[49]⟩,.int .i64 1,.int .i64 1,.int .i64 3,.string ⟨#[50]⟩,.int .i64 1] 59,
  .cells #[.string ⟨#[]⟩,.slice (some (Ad (w.heap.size+1) 0)) 2 2,.string ⟨#[48]⟩,.slice none 0 0] 57]:=⟨_,rfl⟩
 have g:(allocs w l).heap[w.heap.size+0]?=_:=Ep l w (i:=0) (by rw[c];rfl);have h:(allocs w l).heap[w.heap.size+1]?=_:=Ep l w (i:=1) (by rw[c];rfl);have j:(allocs w l).heap[w.heap.size+2]?=_:=Ep l w (i:=2) (by rw[c];rfl);have d:=IZ l w w w.heap.size blr nlr;subst c;exact bodyPost_ret (KG rfl _ (b:=w.heap.size) rfl g) rfl ⟨d,w.heap.size+2,w.heap.size+1,by omega,by omega,by omega,rfl,j,h⟩
def pD:MD:={ kind:=2,start:=0,lead:=⟨#[49]⟩,n:=2,fin:=λi=>if i=0 then ⟨#[]⟩ else ⟨#[49]⟩,na:=λi=>if i=0 then 2 else 0,ain:=λ_ _=>1,aout:=λ_ d=>if d=0 then 2 else 3,aw:=λ_ d=>if d=0 then ⟨#[49,47,50]⟩ else ⟨#[49,47,51]⟩,ato:=λ_ _=>1 }
def Xe:VM pD:=BQ (by decide +kernel)
def OQ:MSz pD:=⟨by decide,λi=>by show (if i=0 then (⟨#[]⟩:ByteArray) else ⟨#[49]⟩).size<=_;split<;>decide,λi d=>by show (if d=0 then (⟨#[49,47,50]⟩:ByteArray) else ⟨#[49,47,51]⟩).size<=_;split<;>decide,λi=>by show (if i=0 then 2 else 0)<=_;split<;>omega,by decide,by decide⟩
def Xd{W:World}{g h:Nat}(c:W.heap[g]?=some (.cells #[.string ⟨#[]⟩,.slice (some (Ad h 0)) 2 2,.string ⟨#[49]⟩,.slice none 0 0] 57 (0,0)))
  (d:W.heap[h]?=some (.cells #[.int .i64 1,.int .i64 2,.string ⟨#[49,47,50]⟩,.int .i64 1,.int .i64 1,.int .i64 3,.string ⟨#[49,47,51]⟩,.int .i64 1] 59 (0,0))) :
  Ma none W (.agg #[.int .i64 2,.int .i64 0,.string ⟨#[49]⟩,.slice (some (Ad g 0)) 2 2]) pD:=by
 refine⟨_,rfl,Qx (D:=pD) (A:=λi=>if i=0 then .slice (some (Ad h 0)) 2 2 else .slice none 0 0) c Dx (λi hi=>?_)⟩
 have h:i=0\/i=1:=by have:i<2:=hi;omega
 rcases h with rfl|rfl
 ·exact⟨rfl,rfl,Me (D:=pD) (i:=0) d Dx (lt2 ⟨rfl,rfl,rfl,rfl⟩ ⟨rfl,rfl,rfl,rfl⟩)⟩
 exact⟨rfl,rfl,Mf _ rfl⟩
def c0:Nat->Int:=λ_=>0
def c501:Nat->Int:=λ_=>501
def p01:Nat->Int:=λi=>if i=0 then 0 else 1
def n2D:MD:=mD.ren<|mapF 2 c2 p01
def eD:MD:=BY 1 1 c1 1 c1 ⟨#[49]⟩
def fD:MD:=catD eD.inZ eD.outZ (Al eD.kind eD.lead eD.lead).1
def zD:MD:=AJ 0 0 ⟨#[]⟩
def z1v:MSz zD:=⟨by decide,λ_=>Nat.zero_le _,λ_ _=>Nat.zero_le _,λ_=>Nat.zero_le _,by decide,by decide⟩
def RE:¬VM zD:=λh=>by have:=h.n1;exact absurd this (by decide)
def z1u(w:World):Ma none w (.agg #[.int .i64 0,.int .i64 0,.string ⟨#[]⟩,.slice none 0 0]) zD:=⟨_,rfl,.inl ⟨rfl,none,0,rfl,Nat.zero_le _⟩⟩
def Hj:VM eD:=BQ (by decide +kernel)
def Hi:MSz eD:=IS (by decide) (DW λ_=>by unfold c1;omega) (DW λ_=>by unfold c1;omega) (by unfold smS;decide) (by decide)
def No:VM fD:=BQ (by decide +kernel)
def Nn:MSz fD:=MB Hj.inZ { Hi with } (VM.outZ Hj) { Hi with } (by decide +kernel) (by unfold smS;decide +kernel)
def LO:AccD eD:=by
 have h:∀q,q<eD.n->∀d,d<eD.na q->eD.aout q d=eD.ain q d:=by decide +kernel
 exact λq d g c=>h q g d c
def Ua:dnOk (tmF (Al eD.kind eD.lead eD.lead) 0) (eD.n+eD.n) (catA eD.inZ eD.outZ):=by unfold dnOk;decide +kernel
def ok_a:VOk pD.inR 1 c1 1 c1 ⟨#[53,47,54]⟩:=Eo (BQ (by decide +kernel)) (by decide +kernel) (by decide +kernel)
def ok_b:VOk mD.outR 1 c1 1 c1 ⟨#[105,110,102]⟩:=Eo (BQ (by decide +kernel)) (by decide +kernel) (by decide +kernel)
def ok_c:VOk n2D 1 c1 0 c1 ⟨#[49]⟩:=Eo (BQ (by decide +kernel)) (by decide +kernel) (by decide +kernel)
def tF(q p:Nat):ByteArray:=if q=p then ⟨#[48]⟩ else if q=3/\p=0 then ⟨#[48]⟩ else ⟨#[105,110,102]⟩
def WT:VOk fD 1 c1 1 c1 ⟨#[50]⟩:=IP (k:=kTr) (T:=tF) No (by decide +kernel) (by decide +kernel) (by decide +kernel)
def WU:VOk fD 0 c1 1 c1 ⟨#[105,110,102]⟩:=IP (k:=kTr) (T:=tF) No (by decide +kernel) (by decide +kernel) (by decide +kernel)
def YQ(w:World)(ht:Tab w):Calls prog 10 #[] w (TrueB w):=by
 have u:=qh<|show ∀W,Below w.heap.size w W->Tab W from λW h=>ht.below h nlr;clear ht;have c:=qh<|Below.refl w.heap.size w
 go_enter func10,ntmps10
 go_wp2_with fail
 refine(VS w).mono ?_;rintro r w1⟨hb,g,h,hg,E,h3,rfl,kg,kh⟩;replace c:=qh<|c.o.trans (hb.mono c.o.size);clear hb;obtain⟨w2,f7⟩:=exq<|w1.alloc (.cells #[.int .i64 2,.int .i64 0,.string ⟨#[49]⟩,.slice (some (Ad g 0)) 2 2] 24);obtain⟨bp,h1⟩:=exq<|w1.heap.size;have kp:w2.heap[bp]?=some (.cells #[.int .i64 2,.int .i64 0,.string ⟨#[49]⟩,.slice (some (Ad g 0)) 2 2] 24 (0,0)):=by rw[f7,h1];exact han w1 _
 have g0:Fr (λ_=>False) w1 w2:=by rw[f7];exact Fr.alloc _ _
 have g3:=(g0.block g (lbk kg) (λe=>e)).trans kg;have m7:=(g0.block h (lbk kh) (λe=>e)).trans kh;have n7:g≠bp:=by have:=lbk kg;omega
 have l4:h≠bp:=by have:=lbk kh;omega
 have g7:Below w.heap.size w w2:=c.o.trans<|g0.below c.o.size (λ_ e=>e.elim);obtain⟨w3,d9⟩:=exq<|w2.setCell ⟨g,2,none⟩ (.string ⟨#[49]⟩);have e2:w3.heap[bp]?=some (.cells #[.int .i64 2,.int .i64 0,.string ⟨#[49]⟩,.slice (some (Ad g 0)) 2 2] 24 (0,0)):=by
  rw[d9,Ar (λe=>n7 e.symm)];exact kp
 have e1:w3.heap[g]?=some (.cells #[.string ⟨#[]⟩,.slice (some (Ad h 0)) 2 2,.string ⟨#[49]⟩,.slice none 0 0] 57 (0,0)):=by
  rw[d9];simp[World.setCell,Array.getElem?_modify,g3]
 have c8:w3.heap[h]?=some (.cells #[.int .i64 1,.int .i64 2,.string ⟨#[49]⟩,.int .i64 1,.int .i64 1,.int .i64 3,.string ⟨#[50]⟩,.int .i64 1] 59 (0,0)):=by
  rw[d9,Ar (λe=>h3 e.symm)];exact m7
 have a6:Below w.heap.size w w3:=by rw[d9];exact g7.setCell (p:=(Ad g 2)) hg _
 have g2:w2.cell? (Ad g 2)=some (.string ⟨#[48]⟩):=cellOf g3 2 rfl;have zg:w2.frozen? (Ad g 2)=false:=by simp[World.frozen?,g3]
 rw[f7]at g2 zg;have HF:=qh<|And.intro e2 (And.intro e1 (And.intro c8 a6));clear e2 e1 c8 a6 g7 g0 kg kh g3 m7 kp
 go_wp2_with fail
 rw[<-f7,<-h1,<-d9];clear g2 zg f7 d9 h1;obtain⟨e2,e1,c8,a6⟩:=HF.o;obtain⟨wd,Z⟩:=exq<|w3.drew;have D:wd.cell? (Ad bp 3)=some (.slice (some (Ad g 0)) 2 2)/\wd.cell? (Ad g 1)=some (.slice (some (Ad h 0)) 2 2):=by rw[Z];exact⟨(cells4 e2).1.2.2.2,cellOf e1 1 rfl⟩
 have h2:wd.cell? (Ad h 2)=some (.string ⟨#[49]⟩):=by rw[Z];exact cellOf c8 2 rfl
 have h6:wd.cell? (Ad h 6)=some (.string ⟨#[50]⟩):=by rw[Z];exact cellOf c8 6 rfl
 have h4:wd.heap[h]?=some (.cells #[.int .i64 1,.int .i64 2,.string ⟨#[49]⟩,.int .i64 1,.int .i64 1,.int .i64 3,.string ⟨#[50]⟩,.int .i64 1] 59 (0,0)):=by rw[Z];exact c8
 have zh:∀j,wd.frozen? (Ad h j)=false:=λj=>by simp[World.frozen?,h4]
 have o2:=zh 2;have o3:=zh 6;obtain⟨w5,e0⟩:∃w5,w5=(wd.setCell ⟨h,2,none⟩ (.string ⟨#[49,47,50]⟩)).setCell (Ad h 6) (.string ⟨#[49,47,51]⟩):=⟨_,rfl⟩;have m8:w5.heap[h]?=some (.cells #[.int .i64 1,.int .i64 2,.string ⟨#[49,47,50]⟩,.int .i64 1,.int .i64 1,.int .i64 3,.string ⟨#[49,47,51]⟩,.int .i64 1] 59 (0,0)):=by
  rw[e0];simp[World.setCell,Array.getElem?_modify,h4]
 have m5:w5.heap[g]?=some (.cells #[.string ⟨#[]⟩,.slice (some (Ad h 0)) 2 2,.string ⟨#[49]⟩,.slice none 0 0] 57 (0,0)):=by rw[e0,Ar h3,Ar h3,Z];exact e1
 have j7:w5.heap[bp]?=some (.cells #[.int .i64 2,.int .i64 0,.string ⟨#[49]⟩,.slice (some (Ad g 0)) 2 2] 24 (0,0)):=by rw[e0,Ar (λe=>l4 e.symm),Ar (λe=>l4 e.symm),Z];exact e2
 have n6:=qh<|Xd m5 m8;replace c:=qh (show Below w.heap.size w w5 by rw[e0,Z];exact(a6.drew.setCell (p:=(Ad h 2)) E _).setCell (p:=(Ad h 6)) E _);replace j7:=qh j7;clear m5 m8 zh h4 e2 e1 c8 a6 HF;refine Io (λwk=>wk.cell? (Ad bp 3)=some (.slice (some (Ad g 0)) 2 2)/\wk.cell? (Ad g 1)=some (.slice (some (Ad h 0)) 2 2)) [10,11,12,13,14,15] (by kernel_rfl) ?_;rw[<-Z];clear Z;refine AnyL.tm 0 D ?_;refine AnyL.tm 1 D ?_;refine AnyL.tm 2 D ?_;refine AnyL.tm 3 D ?_;refine AnyL.tm 4 D ?_;refine AnyL.tm 5 D ?_;refine AnyL.tm 6 D ?_;refine AnyL.tm 7 D ?_;refine AnyL.tm 8 D ?_;refine AnyL.tm 9 D ?_
 try simp only[Act.put,tryL]
 refine AnyL.loose' (by kernel_rfl) ?_
 try simp only[Act.put,tryL]
 clear D;refine AnyL.tm 10 trivial ?_;refine AnyL.tm 11 trivial ?_
 try simp only[Act.put,tryL]
 refine AnyL.on 12 λK hK=>?_;go_simp;refine hK.out _ _ (.inr trivial) ?_;clear hK K
 try simp only[Act.put,tryL]
 refine AnyL.tm 13 trivial ?_;refine AnyL.tm 14 trivial ?_
 try simp only[Act.put,tryL]
 refine AnyL.on 15 λK hK=>?_;go_simp;rw[<-e0];refine hK.out _ _ (.inr trivial) (AnyL.dn ?_);clear hK K h2 h6 o2 o3 e0;obtain⟨⟨m0,m1,m2,m3⟩,_⟩:=cells4 j7.o;have d:=qh<|JL w5 n6.o OQ (u.o w5 c.o)
 go_wp2_with fail
 clear m0 m1 m2 m3;refine d.o.mono ?_;rintro r w1⟨hb,hr⟩;replace c:=qh<|c.o.trans (hb.mono c.o.size);clear hb;clear d
 rcases hr with⟨_,c9,R,rfl,i⟩|⟨z,_⟩
 rotate_left
 ·exact absurd Xe z
 obtain⟨k4,k9,Y,_,_⟩:=AC i.top;subst Y;obtain⟨w2,a7⟩:=exq<|w1.alloc (.cells #[.int .i64 (pD.inR.kind),.int .i64 (pD.inR.start),.string (pD.inR.lead),.slice k4 (pD.inR).n k9] 24);obtain⟨i2,e7⟩:=exq<|w1.heap.size;have l5:w2.heap.size=w1.heap.size+1:=by rw[a7];simp
 have hb:Below w1.heap.size w1 w2:=by rw[a7];exact(Below.refl _ w1).alloc nlr _
 have E:Has w2 i2 (pD.inR.kind) (pD.inR.start) (pD.inR.lead) k4 (pD.inR).n k9 (pD.inR):=by rw[e7,a7];exact Has.new i ⟨rfl,rfl,rfl⟩
 clear i;replace c:=qh<|c.o.trans (hb.mono c.o.size);clear hb;have k:=qh E;clear E;obtain⟨bA,g8⟩:∃x,x=i2:=⟨_,rfl⟩;rw[<-g8]at k
 go_wp2_with fail
 rw[<-e7,<-a7];rw[<-g8];clear a7 l5 e7;clear g8;refine(Dr w2).mono ?_;rintro r w3⟨hb,sv,rfl,C⟩;replace k:=qh<|k.o.on hb;replace c:=qh<|c.o.trans (hb.mono c.o.size);clear hb;have d:=qh<|Ia w3 (⟨_,rfl,C⟩:Ma none w3 (.agg #[.int .i64 mD.kind,.int .i64 mD.start,.string mD.lead,sv]) mD) BO (u.o w3 c.o);clear C
 go_wp2_with fail
 refine d.o.mono ?_;rintro r w4⟨hb,hr⟩;replace k:=qh<|k.o.on hb;replace c:=qh<|c.o.trans (hb.mono c.o.size);clear hb;clear d
 rcases hr with⟨_,c9,R,rfl,i⟩|⟨z,_⟩
 rotate_left
 ·exact absurd Eg z
 obtain⟨k5,l0,Y,_,_⟩:=AC i.top;subst Y;obtain⟨w5,a8⟩:=exq<|w4.alloc (.cells #[.int .i64 (mD.outR.kind),.int .i64 (mD.outR.start),.string (mD.outR.lead),.slice k5 (mD.outR).n l0] 24);obtain⟨i5,f4⟩:=exq<|w4.heap.size;have l6:w5.heap.size=w4.heap.size+1:=by rw[a8];simp
 have hb:Below w4.heap.size w4 w5:=by rw[a8];exact(Below.refl _ w4).alloc nlr _
 have E:Has w5 i5 (mD.outR.kind) (mD.outR.start) (mD.outR.lead) k5 (mD.outR).n l0 (mD.outR):=by rw[f4,a8];exact Has.new i ⟨rfl,rfl,rfl⟩
 clear i;replace k:=qh<|k.o.on hb;replace c:=qh<|c.o.trans (hb.mono c.o.size);clear hb;have l:=qh E;clear E;obtain⟨bB,g9⟩:∃x,x=i5:=⟨_,rfl⟩;rw[<-g9]at l
 go_wp2_with fail
 rw[<-f4,<-a8];rw[<-g9];clear a8 l6 f4;clear g9;refine(Dr w5).mono ?_;rintro r w6⟨hb,sv,rfl,C⟩;replace k:=qh<|k.o.on hb;replace l:=qh<|l.o.on hb;replace c:=qh<|c.o.trans (hb.mono c.o.size);clear hb;have e5:=C;clear C;obtain⟨n9,f5⟩:∃x,x=sv:=⟨_,rfl⟩;rw[<-f5]at e5;rw[<-f5];clear f5
 go_wp2_with fail
 refine(Dr w6).mono ?_;rintro r w7⟨hb,sv,rfl,C⟩;replace e5:=e5.kept<|Ab hb none;replace k:=qh<|k.o.on hb;replace l:=qh<|l.o.on hb;replace c:=qh<|c.o.trans (hb.mono c.o.size);clear hb;have d:=qh<|Jp w7 (⟨_,rfl,e5⟩:Ma none w7 (.agg #[.int .i64 mD.kind,.int .i64 mD.start,.string mD.lead,n9]) mD) (⟨_,rfl,C⟩:Ma none w7 (.agg #[.int .i64 mD.kind,.int .i64 mD.start,.string mD.lead,sv]) mD) BO BO (u.o w7 c.o) (by decide +kernel) (by decide +kernel);clear C e5
 go_wp2_with fail
 refine d.o.mono ?_;rintro r w8⟨hb,hr⟩;replace k:=qh<|k.o.on hb;replace l:=qh<|l.o.on hb;replace c:=qh<|c.o.trans (hb.mono c.o.size);clear hb;clear d
 rcases hr with⟨_,_,l3,_⟩|⟨_,_,_,rfl⟩|⟨z,_⟩
 ·exact absurd (l3.1 0 0 (by decide) (by decide)) (by decide)
 rotate_left
 ·exact absurd ⟨Eg,Eg⟩ z
 unfold AE;obtain⟨w9,d8⟩:=exq<|w8.alloc (.cells #[.int .i64 0,.int .i64 0,.string ⟨#[]⟩,.slice none 0 0] 24);obtain⟨i9,g6⟩:=exq<|w8.heap.size;have l7:w9.heap.size=w8.heap.size+1:=by rw[d8];simp
 have hb:Below w8.heap.size w8 w9:=by rw[d8];exact(Below.refl _ w8).alloc nlr _
 replace k:=qh<|k.o.on hb;replace l:=qh<|l.o.on hb;replace c:=qh<|c.o.trans (hb.mono c.o.size);clear hb
 go_wp2_with fail
 rw[<-g6,<-d8];clear d8 l7 g6;refine(Dr w9).mono ?_;rintro r d0⟨hb,sv,rfl,C⟩;replace k:=qh<|k.o.on hb;replace l:=qh<|l.o.on hb;replace c:=qh<|c.o.trans (hb.mono c.o.size);clear hb;obtain⟨a1,F⟩:=exq<|d0.alloc (.cells #[.int .i64 2,.int .i64 0,.int .i64 2,.int .i64 1] 50);obtain⟨j1,b1⟩:=exq<|d0.heap.size;have h7:a1.heap.size=d0.heap.size+1:=by rw[F];simp
 have hb:Below d0.heap.size d0 a1:=by rw[F];exact(Below.refl _ d0).alloc nlr _
 have hP:PrS none a1 (.slice (some (Ad j1 0)) 2 2) 2 c2 p01:=by rw[b1,F];exact If (han d0 _) Dx (lt2 ⟨rfl,rfl⟩ ⟨rfl,rfl⟩)
 have C:StS none a1 sv mD:=C.kept<|Ab hb none;replace k:=qh<|k.o.on hb;replace l:=qh<|l.o.on hb;replace c:=qh<|c.o.trans (hb.mono c.o.size);clear hb;have d:=qh<|Gu a1 (⟨_,rfl,C⟩:Ma none a1 (.agg #[.int .i64 mD.kind,.int .i64 mD.start,.string mD.lead,sv]) mD) BO hP (by decide) (u.o a1 c.o);clear C hP
 go_wp2_with fail
 rw[<-b1,<-F];clear F h7 b1;refine d.o.mono ?_;rintro r d1⟨hb,hr⟩;replace k:=qh<|k.o.on hb;replace l:=qh<|l.o.on hb;replace c:=qh<|c.o.trans (hb.mono c.o.size);clear hb;clear d
 rcases hr with⟨_,c9,R,rfl,i⟩|⟨z,_⟩
 rotate_left
 ·exact absurd ⟨Eg,(lt2 ⟨by decide,by decide,by decide,by decide⟩ ⟨by decide,by decide,by decide,by decide⟩)⟩ z
 have i:OwM d1 _ c9 n2D R:=i;obtain⟨k6,l1,Y,_,_⟩:=AC i.top;subst Y;obtain⟨e3,G⟩:=exq<|d1.alloc (.cells #[.int .i64 ((mD.ren (mapF 2 c2 p01)).kind),.int .i64 ((mD.ren (mapF 2 c2 p01)).start),.string ((mD.ren (mapF 2 c2 p01)).lead),.slice k6 (n2D).n l1] 24);obtain⟨g1,b2⟩:=exq<|d1.heap.size;have h8:e3.heap.size=d1.heap.size+1:=by rw[G];simp
 have hb:Below d1.heap.size d1 e3:=by rw[G];exact(Below.refl _ d1).alloc nlr _
 have E:Has e3 g1 ((mD.ren (mapF 2 c2 p01)).kind) ((mD.ren (mapF 2 c2 p01)).start) ((mD.ren (mapF 2 c2 p01)).lead) k6 (n2D).n l1 (n2D):=by rw[b2,G];exact Has.new i ⟨rfl,rfl,rfl⟩
 clear i;replace k:=qh<|k.o.on hb;replace l:=qh<|l.o.on hb;replace c:=qh<|c.o.trans (hb.mono c.o.size);clear hb;have m:=qh E;clear E;obtain⟨bC,h0⟩:∃x,x=g1:=⟨_,rfl⟩;rw[<-h0]at m
 go_wp2_with fail
 rw[<-b2,<-G];rw[<-h0];clear G h8 b2;clear h0;refine(Dr e3).mono ?_;rintro r d2⟨hb,sv,rfl,C⟩;replace k:=qh<|k.o.on hb;replace l:=qh<|l.o.on hb;replace m:=qh<|m.o.on hb;replace c:=qh<|c.o.trans (hb.mono c.o.size);clear hb;obtain⟨a2,H⟩:=exq<|d2.alloc (.cells #[.int .i64 0,.int .i64 1] 50);obtain⟨j2,b3⟩:=exq<|d2.heap.size;have h9:a2.heap.size=d2.heap.size+1:=by rw[H];simp
 have hb:Below d2.heap.size d2 a2:=by rw[H];exact(Below.refl _ d2).alloc nlr _
 have hP:PrS none a2 (.slice (some (Ad j2 0)) 1 1) 1 c0 c1:=by rw[b3,H];exact If (han d2 _) CM (lt1 ⟨rfl,rfl⟩)
 have C:StS none a2 sv mD:=C.kept<|Ab hb none;replace k:=qh<|k.o.on hb;replace l:=qh<|l.o.on hb;replace m:=qh<|m.o.on hb;replace c:=qh<|c.o.trans (hb.mono c.o.size);clear hb;have d:=qh<|Gu a2 (⟨_,rfl,C⟩:Ma none a2 (.agg #[.int .i64 mD.kind,.int .i64 mD.start,.string mD.lead,sv]) mD) BO hP (by decide) (u.o a2 c.o);clear C hP
 go_wp2_with fail
 rw[<-b3,<-H];clear H h9 b3;refine d.o.mono ?_;rintro r e4⟨hb,hr⟩;replace k:=qh<|k.o.on hb;replace l:=qh<|l.o.on hb;replace m:=qh<|m.o.on hb;replace c:=qh<|c.o.trans (hb.mono c.o.size);clear hb;clear d
 rcases hr with⟨⟨_,h5⟩,_⟩|⟨_,rfl⟩
 ·exact absurd (h5 0 (by decide)).1 (by decide)
 unfold AE;obtain⟨f8,U⟩:=exq<|e4.alloc (.cells #[.int .i64 0,.int .i64 0,.string ⟨#[]⟩,.slice none 0 0] 24);obtain⟨l8,e6⟩:=exq<|e4.heap.size;have i3:f8.heap.size=e4.heap.size+1:=by rw[U];simp
 have hb:Below e4.heap.size e4 f8:=by rw[U];exact(Below.refl _ e4).alloc nlr _
 replace k:=qh<|k.o.on hb;replace l:=qh<|l.o.on hb;replace m:=qh<|m.o.on hb;replace c:=qh<|c.o.trans (hb.mono c.o.size);clear hb
 go_wp2_with fail
 rw[<-e6,<-U];clear U i3 e6;refine(Dr f8).mono ?_;rintro r d3⟨hb,sv,rfl,C⟩;replace k:=qh<|k.o.on hb;replace l:=qh<|l.o.on hb;replace m:=qh<|m.o.on hb;replace c:=qh<|c.o.trans (hb.mono c.o.size);clear hb;obtain⟨a3,I⟩:=exq<|d3.alloc (.cells #[.int .i64 1,.int .i64 501] 50);obtain⟨j3,b4⟩:=exq<|d3.heap.size;have i4:a3.heap.size=d3.heap.size+1:=by rw[I];simp
 have hb:Below d3.heap.size d3 a3:=by rw[I];exact(Below.refl _ d3).alloc nlr _
 have hP:PrS none a3 (.slice (some (Ad j3 0)) 1 1) 1 c1 c501:=by rw[b4,I];exact If (han d3 _) CM (lt1 ⟨rfl,rfl⟩)
 have C:StS none a3 sv mD:=C.kept<|Ab hb none;replace k:=qh<|k.o.on hb;replace l:=qh<|l.o.on hb;replace m:=qh<|m.o.on hb;replace c:=qh<|c.o.trans (hb.mono c.o.size);clear hb;have d:=qh<|Gu a3 (⟨_,rfl,C⟩:Ma none a3 (.agg #[.int .i64 mD.kind,.int .i64 mD.start,.string mD.lead,sv]) mD) BO hP (by decide) (u.o a3 c.o);clear C hP
 go_wp2_with fail
 rw[<-b4,<-I];clear I i4 b4;refine d.o.mono ?_;rintro r P⟨hb,hr⟩;replace k:=qh<|k.o.on hb;replace l:=qh<|l.o.on hb;replace m:=qh<|m.o.on hb;replace c:=qh<|c.o.trans (hb.mono c.o.size);clear hb;clear d
 rcases hr with⟨⟨_,h5⟩,_⟩|⟨_,rfl⟩
 ·exact absurd (h5 0 (by decide)).2.2.2 (by decide)
 unfold AE;obtain⟨a4,X⟩:=exq<|P.alloc (.cells #[.int .i64 0,.int .i64 0,.string ⟨#[]⟩,.slice none 0 0] 24);obtain⟨l9,e8⟩:=exq<|P.heap.size;have b8:a4.heap.size=P.heap.size+1:=by rw[X];simp
 have hb:Below P.heap.size P a4:=by rw[X];exact(Below.refl _ P).alloc nlr _
 replace k:=qh<|k.o.on hb;replace l:=qh<|l.o.on hb;replace m:=qh<|m.o.on hb;replace c:=qh<|c.o.trans (hb.mono c.o.size);clear hb;obtain⟨Q,J⟩:=exq<|a4.alloc (.cells #[.int .i64 1] 3);obtain⟨j4,b5⟩:=exq<|P.heap.size+1;have b9:Q.heap.size=P.heap.size+1+1:=by rw[J];simp[b8]
 have hb:Below a4.heap.size a4 Q:=by rw[J];exact(Below.refl _ a4).alloc nlr _
 have E:Si none Q (.slice (some (Ad j4 0)) 1 1) 1 c1:=by rw[b5,<-b8,J];exact Cr (han a4 _) CM (lt1 rfl)
 replace k:=qh<|k.o.on hb;replace l:=qh<|l.o.on hb;replace m:=qh<|m.o.on hb;replace c:=qh<|c.o.trans (hb.mono c.o.size);clear hb;have Sx:=qh E;clear E;obtain⟨d4,L⟩:=exq<|Q.alloc (.cells #[.int .i64 1] 3);obtain⟨j5,b6⟩:=exq<|P.heap.size+1+1;have i6:d4.heap.size=P.heap.size+1+1+1:=by rw[L];simp[b9]
 have hb:Below Q.heap.size Q d4:=by rw[L];exact(Below.refl _ Q).alloc nlr _
 have E:Si none d4 (.slice (some (Ad j5 0)) 1 1) 1 c1:=by rw[b6,<-b9,L];exact Cr (han Q _) CM (lt1 rfl)
 replace k:=qh<|k.o.on hb;replace l:=qh<|l.o.on hb;replace m:=qh<|m.o.on hb;replace Sx:=qh<|Sx.o.kept (Ab hb none);replace c:=qh<|c.o.trans (hb.mono c.o.size);clear hb;have Sy:=qh E;clear E;have d:=qh (GU (kind:=1) (v:=⟨#[49]⟩) d4 Sx.o Sy.o (by decide) (by decide) (by unfold smS;decide) (u.o d4 c.o) ⟨by decide +kernel,by decide +kernel,by decide +kernel⟩);clear Sx Sy
 go_wp2_with fail
 rw[<-b6,<-b5,<-e8,<-X,<-J,<-L];clear X b8 e8;clear J b9 b5;clear L i6 b6;refine d.o.mono ?_;rintro r d5⟨hb,hr⟩;replace k:=qh<|k.o.on hb;replace l:=qh<|l.o.on hb;replace m:=qh<|m.o.on hb;replace c:=qh<|c.o.trans (hb.mono c.o.size);clear hb;clear d;obtain⟨c9,R,rfl,i⟩:=hr;have i:OwM d5 _ c9 eD R:=i;obtain⟨k7,l2,Y,_,_⟩:=AC i.top;subst Y;obtain⟨d6,A⟩:=exq<|d5.alloc (.cells #[.int .i64 (1),.int .i64 (0),.string (⟨#[49]⟩),.slice k7 (eD).n l2] 24);obtain⟨a9,T⟩:=exq<|d5.heap.size;have i7:d6.heap.size=d5.heap.size+1:=by rw[A];simp
 have hb:Below d5.heap.size d5 d6:=by rw[A];exact(Below.refl _ d5).alloc nlr _
 have E:Has d6 a9 (1) (0) (⟨#[49]⟩) k7 (eD).n l2 (eD):=by rw[T,A];exact Has.new i ⟨by decide +kernel,by decide +kernel,by decide +kernel⟩
 clear i;have k1:bA≠a9:=by have:=lbk k.o.1;omega
 have k2:bB≠a9:=by have:=lbk l.o.1;omega
 have k3:bC≠a9:=by have:=lbk m.o.1;omega
 have LD:w.heap.size<=a9:=by have:=c.o.size;omega
 replace k:=qh<|k.o.on hb;replace l:=qh<|l.o.on hb;replace m:=qh<|m.o.on hb;replace c:=qh<|c.o.trans (hb.mono c.o.size);clear hb;have s:=qh E;clear E;obtain⟨bD,f9⟩:∃x,x=a9:=⟨_,rfl⟩;rw[<-f9]at s k1 k2 k3 LD;obtain⟨⟨m0,m1,m2,m3⟩,_⟩:=cells4 s.o.1;rw[A]at m0 m1 m2 m3;rw[f9,T]at m0 m1 m2 m3;have d:=qh<|Jp d6 s.o.ma s.o.ma Hi Hi (u.o d6 c.o) (by decide +kernel) (by decide +kernel)
 go_wp2_with fail
 clear m0 m1 m2 m3;rw[<-T,<-A];rw[<-f9];clear A i7 T;clear f9;refine d.o.mono ?_;rintro r j8⟨hb,hr⟩;replace k:=qh<|k.o.on hb;replace l:=qh<|l.o.on hb;replace m:=qh<|m.o.on hb;replace s:=qh<|s.o.on hb;replace c:=qh<|c.o.trans (hb.mono c.o.size);clear hb;clear d
 rcases hr with⟨_,_,_,⟨_,c9,R,rfl,i⟩|⟨z,_⟩⟩|⟨_,_,z,_⟩|⟨z,_⟩
 rotate_left
 ·exact absurd Ua z
 ·exact absurd ⟨LO,LO,rfl⟩ z
 ·exact absurd ⟨Hj,Hj⟩ z
 have i:OwM j8 _ c9 fD R:=i;obtain⟨g4,g5,Y,_,_⟩:=AC i.top;subst Y;obtain⟨⟨r0,r1,r2,r3⟩,rz⟩:=cells4 s.o.1;have f0:=rz 0;have f1:=rz 1;have f2:=rz 2;have f3:=rz 3;clear rz;obtain⟨O,o⟩:∃O,O=(((j8.setCell ⟨bD,0,none⟩ (.int .i64 (eD.kind))).setCell (Ad bD 1) (.int .i64 (((eD.n:Int)+eD.start)))).setCell (Ad bD 2) (.string ((Al eD.kind eD.lead eD.lead).1))).setCell (Ad bD 3) (.slice g4 (fD).n g5):=⟨_,rfl⟩;have i8:O.heap.size=j8.heap.size:=by rw[o];simp[World.setCell]
 replace k:=qh (show Has O bA _ _ _ _ _ _ _ from by rw[o];exact k.o.set s.o.1 k1 _ _ _ _);replace l:=qh (show Has O bB _ _ _ _ _ _ _ from by rw[o];exact l.o.set s.o.1 k2 _ _ _ _);replace m:=qh (show Has O bC _ _ _ _ _ _ _ from by rw[o];exact m.o.set s.o.1 k3 _ _ _ _);replace c:=qh (show Below w.heap.size w O from by rw[o];exact AF c.o LD _ _ _ _);replace s:=qh (show Has O bD (eD.kind) (((eD.n:Int)+eD.start)) ((Al eD.kind eD.lead eD.lead).1) g4 (fD).n g5 (fD) from by rw[o];exact Has.put i s.o.1 ⟨by decide +kernel,by decide +kernel,by decide +kernel⟩);clear i
 go_wp2_with fail
 rw[<-o];clear o i8;clear r0 r1 r2 r3 f0 f1 f2 f3;have d:=qh<|KM O (z1u O) z1v (u.o O c.o);refine d.o.mono ?_;rintro r b0⟨hb,hr⟩;replace k:=qh<|k.o.on hb;replace l:=qh<|l.o.on hb;replace m:=qh<|m.o.on hb;replace s:=qh<|s.o.on hb;replace c:=qh<|c.o.trans (hb.mono c.o.size);clear hb;clear d
 rcases hr with⟨hv,_⟩|⟨hv,_⟩|⟨_,rfl⟩
 ·exact absurd hv RE
 ·exact absurd hv RE
 unfold AE;obtain⟨a5,N⟩:=exq<|b0.alloc (.cells #[.int .i64 0,.int .i64 0,.string ⟨#[]⟩,.slice none 0 0] 24);obtain⟨m4,e9⟩:=exq<|b0.heap.size;have c7:a5.heap.size=b0.heap.size+1:=by rw[N];simp
 have hb:Below b0.heap.size b0 a5:=by rw[N];exact(Below.refl _ b0).alloc nlr _
 replace k:=qh<|k.o.on hb;replace l:=qh<|l.o.on hb;replace m:=qh<|m.o.on hb;replace s:=qh<|s.o.on hb;replace c:=qh<|c.o.trans (hb.mono c.o.size);clear hb;obtain⟨d7,B⟩:=exq<|a5.alloc (.cells #[.int .i64 1] 3);obtain⟨j6,b7⟩:=exq<|b0.heap.size+1;have j0:d7.heap.size=b0.heap.size+1+1:=by rw[B];simp[c7]
 have hb:Below a5.heap.size a5 d7:=by rw[B];exact(Below.refl _ a5).alloc nlr _
 have E:Si none d7 (.slice (some (Ad j6 0)) 1 1) 1 c1:=by rw[b7,<-c7,B];exact Cr (han a5 _) CM (lt1 rfl)
 replace k:=qh<|k.o.on hb;replace l:=qh<|l.o.on hb;replace m:=qh<|m.o.on hb;replace s:=qh<|s.o.on hb;replace c:=qh<|c.o.trans (hb.mono c.o.size);clear hb;have S:=qh E;clear E;obtain⟨⟨m0,m1,m2,m3⟩,_⟩:=cells4 k.o.1;rw[B,N]at m0 m1 m2 m3;have d:=qh<|CS d7 k.o.ma { OQ with } (u.o d7 c.o) S.o S.o (by decide) (by decide) ok_a
 go_wp2_with fail
 clear m0 m1 m2 m3;rw[<-b7,<-e9,<-N,<-B];clear N c7 e9;clear B j0 b7;refine d.o.mono ?_;rintro r m9⟨rfl,hb⟩;replace k:=qh<|k.o.on hb;replace l:=qh<|l.o.on hb;replace m:=qh<|m.o.on hb;replace s:=qh<|s.o.on hb;replace S:=qh<|S.o.kept (Ab hb none);replace c:=qh<|c.o.trans (hb.mono c.o.size);clear hb;clear d;obtain⟨⟨m0,m1,m2,m3⟩,_⟩:=cells4 l.o.1;have d:=qh<|CS m9 l.o.ma { BO with } (u.o m9 c.o) S.o S.o (by decide) (by decide) ok_b
 go_wp2_with fail
 clear m0 m1 m2 m3;refine d.o.mono ?_;rintro r j9⟨rfl,hb⟩;replace k:=qh<|k.o.on hb;replace l:=qh<|l.o.on hb;replace m:=qh<|m.o.on hb;replace s:=qh<|s.o.on hb;replace S:=qh<|S.o.kept (Ab hb none);replace c:=qh<|c.o.trans (hb.mono c.o.size);clear hb;clear d;obtain⟨⟨m0,m1,m2,m3⟩,_⟩:=cells4 m.o.1;have d:=qh<|CS j9 m.o.ma { BO with } (u.o j9 c.o) S.o (Qg j9 c1) (by decide) (by decide) ok_c
 go_wp2_with fail
 clear m0 m1 m2 m3;refine d.o.mono ?_;rintro r n3⟨rfl,hb⟩;replace k:=qh<|k.o.on hb;replace l:=qh<|l.o.on hb;replace m:=qh<|m.o.on hb;replace s:=qh<|s.o.on hb;replace S:=qh<|S.o.kept (Ab hb none);replace c:=qh<|c.o.trans (hb.mono c.o.size);clear hb;clear d;obtain⟨⟨m0,m1,m2,m3⟩,_⟩:=cells4 s.o.1;have d:=qh<|CS n3 s.o.ma Nn (u.o n3 c.o) S.o S.o (by decide) (by decide) WT
 go_wp2_with fail
 clear m0 m1 m2 m3;refine d.o.mono ?_;rintro r k0⟨rfl,hb⟩;replace k:=qh<|k.o.on hb;replace l:=qh<|l.o.on hb;replace m:=qh<|m.o.on hb;replace s:=qh<|s.o.on hb;replace S:=qh<|S.o.kept (Ab hb none);replace c:=qh<|c.o.trans (hb.mono c.o.size);clear hb;clear d;obtain⟨⟨m0,m1,m2,m3⟩,_⟩:=cells4 s.o.1;have d:=qh<|CS k0 s.o.ma Nn (u.o k0 c.o) (Qg k0 c1) S.o (by decide) (by decide) WU
 go_wp2_with fail
 clear m0 m1 m2 m3;refine d.o.mono ?_;rintro r n5⟨rfl,hb⟩;replace k:=qh<|k.o.on hb;replace l:=qh<|l.o.on hb;replace m:=qh<|m.o.on hb;replace s:=qh<|s.o.on hb;replace S:=qh<|S.o.kept (Ab hb none);replace c:=qh<|c.o.trans (hb.mono c.o.size);clear hb;clear d;have d:=qh<|CH n5 (u.o n5 c.o)
 go_wp2_with fail
 refine d.o.mono ?_;rintro r o4⟨rfl,hb⟩;replace k:=qh<|k.o.on hb;replace l:=qh<|l.o.on hb;replace m:=qh<|m.o.on hb;replace s:=qh<|s.o.on hb;replace S:=qh<|S.o.kept (Ab hb none);replace c:=qh<|c.o.trans (hb.mono c.o.size);clear hb;clear d;go_wp2;go_ret;exact⟨rfl,c.o⟩
end
end Go.Proofs.YteappjogmnogcaaGreatDoor
