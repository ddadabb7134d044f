/- Parts. -/
import Derived.Test.YtpldocnhbdlgfaaGreatDoorPb09
import Derived.Test.YtpldocnhbdlgfaaGreatDoorPb10
import Derived.Laws.EntriesVeiled
import Derived.Deep.WholeRow
namespace Go.Proofs.YtpldocnhbdlgfaaGreatDoor
set_option maxRecDepth 100000
set_option linter.all false
set_option maxHeartbeats 16000000
open Go Tryz
section
open Go.RowKit
def RY(g:FuncId)(p q:Bool)(o m u s:ByteArray)(E:Ending)(l j k:Nat)(w:World)(z:(∃r x y,E=.returned (.agg #[.bool r,.string x,.string y]))\/E=PT)
  (O:∀args w,(callFunc g args).run prog w=.ok (.enter g args) w) (P:l<w.heap.size) (Q:j<w.heap.size) (R:k<w.heap.size)
  (c0:w.cell? (Ad l 0)=some (.func (.func g) #[] #[])) (D:w.cell? (Ad j 0)=some (.bool p)) (F:w.cell? (Ad j 1)=some (.string o)) (G:w.cell? (Ad j 2)=some (.string m))
  (H:w.cell? (Ad k 0)=some (.bool q)) (I:w.cell? (Ad k 1)=some (.string u)) (J:w.cell? (Ad k 2)=some (.string s))
  (d:∀wx,Below w.heap.size w wx->Calls prog g #[nvS p o m,nvS q u s] wx λe w'=>e=E/\Below wx.heap.size wx w') :
  Calls prog 211 #[.pointer (some (Ad l 0)),.pointer (some (Ad j 0)),.pointer (some (Ad k 0))] w λe w'=>e=E/\Below w.heap.size w w':=by
 unfold nvS at d;replace d:=qh d;have c:Below w.heap.size w (w.alloc (.cells #[.bool false,.string ⟨#[]⟩,.string ⟨#[]⟩] 180)):=blr.alloc nlr _;replace c:=qh c
 rcases z with⟨r,x,y,rfl⟩|rfl
 ·go_enter func211,ntmps211
  go_wp2_with fail
  refine(d.o _ c.o).mono ?_;rintro e C⟨rfl,h⟩;have i:=qh h;clear h;obtain⟨B,k1,k2,K,L,N,A⟩:=res3 i.o;obtain⟨s0,s1,s2⟩:=set3 (a':=.bool r) (b':=.string x) (c':=.string y) B k1 k2
  go_wp2_with fail
  exact bodyPost_ret (DY rfl _ _ w.heap.size r x y rfl s0 s1 s2) rfl ⟨rfl,(((Af c.o i.o).setCell nlr _).setCell nlr _).setCell nlr _⟩
 unfold PT at d ⊢
 go_enter func211,ntmps211
 go_wp2_with fail
 refine(d.o _ c.o).mono ?_;rintro e C⟨rfl,h⟩;have i:=qh h;clear h
 go_wp2_with fail
 exact⟨rfl,rfl,Af c.o i.o⟩
def qE(q:Rat):(∃r x y,(if fitQ q then .returned (nv q) else PT)=Ending.returned (.agg #[.bool r,.string x,.string y]))\/(if fitQ q then .returned (nv q) else PT)=PT:=by
 by_cases h:fitQ q
 ·rw[ifp h];exact .inl ⟨_,_,_,rfl⟩
 rw[ifn h];exact .inr rfl
def okR(F:Rat->Rat->Rat)(a b:ByteArray):ByteArray × Nat:=match prs a,prs b with|some x,some y=>limR (F x y)|_,_=>(str [],1)
def FF(g:FuncId)(F:Rat->Rat->Rat)(a b:ByteArray)(w:World)(R:a.size<=9223372036854775807)(hb:b.size<=9223372036854775807)(S:Tab w)
  (P:∀args w,(callFunc g args).run prog w=.ok (.enter g args) w)
  (z:∀x y,prs a=some x->prs b=some y->∀wx,Below w.heap.size w wx->Calls prog g #[nv x,nv y] wx (QEnd (F x y) wx)) :
  Calls prog 178 #[.string a,.string b,.func (.func g) #[] #[]] w (PairEnd (okR F a b) w):=by
 have U:∀(fn:Fn) (first cap:Array Value) (w:World),(Instr.makeFunc fn first cap).run prog w=.ok (.func fn first cap) w:=λ_ _ _ _=>rfl
 have O:∀wx,Below w.heap.size w wx->Tab wx:=λwx h=>S.below h nlr;have c1:=λwx (h:Below w.heap.size w wx)=>Gf a wx R (O wx h);have c2:=λwx (h:Below w.heap.size w wx)=>Gf b wx hb (O wx h);replace P:=qh P;have u:=qh z;clear z;clear O S R hb;have d:Below w.heap.size w (w.alloc (.cells #[.func (.func g) #[] #[]] 190)):=blr.alloc nlr _;replace d:=qh d;cases B:prs a with
 |none =>
  have D:okR F a b=(str [],1):=by unfold okR;rw[B]
  rw[D];simp only[B,Option.isSome,prsV]at c1;clear D u B;have E:=qh c1;clear c1;generalize (prs b).isSome=o at c2;obtain⟨r,x,y,T⟩:=Kl<|prs b;rw[T]at c2;clear T;have G:=qh c2;clear c2;unfold NoNum nvS at E
  go_enter func178,ntmps178
  go_wp2_with fail
  refine(E.o _ d.o).mono ?_;rintro e A⟨rfl,c⟩;have k:=qh<|(Af d.o c).alloc (Nat.le_trans d.o.size c.size) (.cells #[.bool false,.string ⟨#[]⟩,.string ⟨#[]⟩] 180);clear c
  go_wp2_with fail
  refine(G.o _ k.o).mono ?_;rintro e C⟨rfl,j⟩;have l:=qh<|Af k.o j;clear j;go_wp2;go_ret2;exact⟨rfl,l.o.alloc l.o.size _⟩
 |some x =>
  simp only[B,Option.isSome,prsV]at c1;have E:=qh c1;clear c1;cases J:prs b with
  |none =>
   have D:okR F a b=(str [],1):=by unfold okR;rw[B,J]
   rw[D];simp only[J,Option.isSome,prsV]at c2;clear D u B J;have G:=qh c2;clear c2;unfold nv nvS at E;unfold NoNum nvS at G
   go_enter func178,ntmps178
   go_wp2_with fail
   refine(E.o _ d.o).mono ?_;rintro e A⟨rfl,c⟩;have k:=qh<|(Af d.o c).alloc (Nat.le_trans d.o.size c.size) (.cells #[.bool (negQ x),.string (str (dec x.num.natAbs)),.string (str (dec x.den))] 180);clear c
   go_wp2_with fail
   refine(G.o _ k.o).mono ?_;rintro e C⟨rfl,j⟩;have l:=qh<|Af k.o j;clear j;go_wp2;go_ret2;exact⟨rfl,l.o.alloc l.o.size _⟩
  |some y =>
   have D:okR F a b=limR (F x y):=by unfold okR;rw[B,J]
   rw[D];simp only[J,Option.isSome,prsV]at c2;have z:=λwx h=>u.o x y B J wx h;clear D u B J;have u:=qh z;clear z;have G:=qh c2;clear c2;unfold nv nvS at E G
   go_enter func178,ntmps178
   go_wp2_with fail
   refine(E.o _ d.o).mono ?_;rintro e A⟨rfl,c⟩;have K:=qh c;have k:=qh<|(Af d.o c).alloc (Nat.le_trans d.o.size c.size) (.cells #[.bool (negQ x),.string (str (dec x.num.natAbs)),.string (str (dec x.den))] 180);clear c
   go_wp2_with fail
   refine(G.o _ k.o).mono ?_;rintro e C⟨rfl,j⟩;have H:=qh j;have l:=qh<|(Af k.o j).alloc (Nat.le_trans k.o.size j.size) (.cells #[.bool (negQ y),.string (str (dec y.num.natAbs)),.string (str (dec y.den))] 180);clear j
   go_wp2_with fail
   refine(YM _ (F x y) _ (λwx h=>?_)).mono ?_
   ·have z0:=K.o.size;have Y:=H.o.size;have Z:=h.size;rw[World.size_alloc]at z0 Y Z;have s0:w.heap.size<(w.alloc (.cells #[.func (.func g) #[] #[]] 190)).heap.size:=by rw[World.size_alloc];omega
    have s1:∀o,A.heap.size<(A.alloc o).heap.size:=λo=>by rw[World.size_alloc];omega
    have s2:∀o,C.heap.size<(C.alloc o).heap.size:=λo=>by rw[World.size_alloc];omega
    have I:wx.cell? (Ad w.heap.size 0)=some (.func (.func g) #[] #[]):=by
     refine(h.cell (p:=(Ad w.heap.size 0)) (by rw[World.size_alloc];show w.heap.size<_;omega)).trans ?_;rw[World.cell?_alloc_past (hn:=by omega)];refine(H.o.cell (p:=(Ad w.heap.size 0)) (by rw[World.size_alloc];show w.heap.size<_;omega)).trans ?_;rw[World.cell?_alloc_past (hn:=by omega)];refine(K.o.cell (p:=(Ad w.heap.size 0)) s0).trans ?_;simp[go_sem]
    have m:∀(i:Nat) (v:Value),(A.alloc (.cells #[.bool (negQ x),.string (str (dec x.num.natAbs)),.string (str (dec x.den))] 180)).cell? (Ad A.heap.size i)=some v->wx.cell? (Ad A.heap.size i)=some v:=by
     intro i v Q;refine(h.cell (p:=(Ad A.heap.size i)) (by rw[World.size_alloc];show A.heap.size<_;omega)).trans ?_;rw[World.cell?_alloc_past (hn:=by omega)];exact(H.o.cell (p:=(Ad A.heap.size i)) (s1 _)).trans Q
    have s:∀(i:Nat) (v:Value),(C.alloc (.cells #[.bool (negQ y),.string (str (dec y.num.natAbs)),.string (str (dec y.den))] 180)).cell? (Ad C.heap.size i)=some v->wx.cell? (Ad C.heap.size i)=some v:=by
     intro i v Q;exact(h.cell (p:=(Ad C.heap.size i)) (s2 _)).trans Q
    exact RY g _ _ _ _ _ _ _ w.heap.size A.heap.size C.heap.size wx (qE (F x y)) P.o (by omega) (by omega) (by omega) I
     (m 0 _ (by simp[go_sem])) (m 1 _ (by simp[go_sem])) (m 2 _ (by simp[go_sem])) (s 0 _ (by simp[go_sem])) (s 1 _ (by simp[go_sem])) (s 2 _ (by simp[go_sem]))
     (λX W=>u.o X ((Af l.o h).trans (W.mono (Af l.o h).size)))
   rintro e w3⟨rfl,L⟩;have N:=qh<|Af l.o L;clear L;generalize limR (F x y)=lr at *;obtain⟨ls,ln⟩:=lr;go_wp2;go_ret2;exact⟨rfl,N.o⟩
def QR(x y:Rat)(w:World)(d:fitQ x)(g:fitQ y)(o:Tab w):Calls prog 179 #[nv x,nv y] w (QEnd (x+y) w):=by
 have i:∀c,Below w.heap.size w c->Tab c:=λc h=>o.below h nlr;have l:fits (x.num.natAbs*y.den):=Bn d.1 g.2;have m:fits (y.num.natAbs*x.den):=Bn g.1 d.2;have j:fits (x.num.natAbs*y.den+y.num.natAbs*x.den):=FJ d.1 g.2 g.1 d.2;have k:fits (x.den*y.den):=Bn d.2 g.2;unfold QEnd;rw[LE x y];exact QS (negQ x) (negQ y) _ _ _ _ (str (dec (x.num.natAbs*y.den))) (str (dec (y.num.natAbs*x.den))) _ (str (dec (x.den*y.den))) _ _ w (qE _)
  (λc h=>CI _ _ c (BD d) (AY g) l (i c h)) (λc h=>CI _ _ c (BD g) (AY d) m (i c h))
  (λc h=>Ks (negQ x) (negQ y) _ _ c j (i c h)) (λc h=>CI _ _ c (AY d) (AY g) k (i c h))
  (λc h=>Ih _ _ _ c (Cd j (KS _ _ _ _)) k (Nat.mul_ne_zero x.den_nz y.den_nz) (i c h))
def Xy(x y:Rat)(w:World)(d:fitQ x)(g:fitQ y)(o:Tab w):Calls prog 213 #[nv x,nv y] w (QEnd (x-y) w):=by
 have i:∀c,Below w.heap.size w c->Tab c:=λc h=>o.below h nlr;have l:fits (x.num.natAbs*y.den):=Bn d.1 g.2;have m:fits (y.num.natAbs*x.den):=Bn g.1 d.2;have j:fits (x.num.natAbs*y.den+y.num.natAbs*x.den):=FJ d.1 g.2 g.1 d.2;have k:fits (x.den*y.den):=Bn d.2 g.2;unfold QEnd;rw[Xx x y];exact Xz (negQ x) (negQ y) _ _ _ _ (str (dec (x.num.natAbs*y.den))) (str (dec (y.num.natAbs*x.den))) _ (str (dec (x.den*y.den))) _ _ w (qE _)
  (λc h=>CI _ _ c (BD d) (AY g) l (i c h)) (λc h=>CI _ _ c (BD g) (AY d) m (i c h))
  (λc h=>Ks (negQ x) (!negQ y) _ _ c j (i c h)) (λc h=>CI _ _ c (AY d) (AY g) k (i c h))
  (λc h=>Ih _ _ _ c (Cd j (KS _ _ _ _)) k (Nat.mul_ne_zero x.den_nz y.den_nz) (i c h))
def UJ(x y:Rat)(w:World)(d:fitQ x)(g:fitQ y)(l:Tab w):Calls prog 181 #[nv x,nv y] w (QEnd (x*y) w):=by
 have i:∀c,Below w.heap.size w c->Tab c:=λc h=>l.below h nlr;have j:fits (x.num.natAbs*y.num.natAbs):=Bn d.1 g.1;have k:fits (x.den*y.den):=Bn d.2 g.2;unfold QEnd;rw[Nz x y];exact UK (negQ x) (negQ y) _ _ _ _ (str (dec (x.num.natAbs*y.num.natAbs))) (str (dec (x.den*y.den))) _ w (qE _)
  (λc h=>CI _ _ c (BD d) (BD g) j (i c h)) (λc h=>CI _ _ c (AY d) (AY g) k (i c h))
  (λc h=>Ih _ _ _ c j k (Nat.mul_ne_zero x.den_nz y.den_nz) (i c h))
def SG(x y:Rat)(w:World)(d:fitQ x)(g:fitQ y)(l:y≠0)(m:Tab w):Calls prog 214 #[nv x,nv y] w (QEnd (x / y) w):=by
 have i:∀c,Below w.heap.size w c->Tab c:=λc h=>m.below h nlr;have j:fits (x.num.natAbs*y.den):=Bn d.1 g.2;have k:fits (x.den*y.num.natAbs):=Bn d.2 g.1;unfold QEnd;rw[Mv x y];exact SH (negQ x) (negQ y) _ _ _ _ (str (dec (x.num.natAbs*y.den))) (str (dec (x.den*y.num.natAbs))) _ w (qE _)
  (λc h=>CI _ _ c (BD d) (AY g) j (i c h)) (λc h=>CI _ _ c (AY d) (BD g) k (i c h))
  (λc h=>Ih _ _ _ c j k ((Nat.mul_ne_zero x.den_nz (λe=>l (Rat.num_eq_zero.1 (Int.natAbs_eq_zero.1 e))))) (i c h))
def Ta:∀args w,(callFunc 179 args).run prog w=.ok (.enter 179 args) w:=λargs w=>by kernel_rfl
def Oi(a b:ByteArray)(w:World)(g:a.size<=9223372036854775807)(hb:b.size<=9223372036854775807)(d:Tab w):
  Calls prog 144 #[.string a,.string b] w (PairEnd (Ba a b) w):=by
 have c:=FF 179 (λx y=>x+y) a b w g hb d Ta (λx y k l m h=>QR x y m (AS k).2 (AS l).2 (d.below h nlr));have i:okR (λx y=>x+y) a b=Ba a b:=rfl;rw[i]at c;generalize Ba a b=r at *;obtain⟨rs,o⟩:=r;replace c:=qh c;clear i d g hb
 go_enter func144,ntmps144
 go_wp2_with fail
 refine c.o.mono ?_;rintro e p⟨rfl,hb⟩;have j:=qh hb;clear hb;go_wp2;go_ret2;exact⟨rfl,j.o⟩
def Ti:∀args w,(callFunc 213 args).run prog w=.ok (.enter 213 args) w:=λargs w=>by kernel_rfl
def VP(a b:ByteArray)(w:World)(g:a.size<=9223372036854775807)(hb:b.size<=9223372036854775807)(d:Tab w):
  Calls prog 182 #[.string a,.string b] w (PairEnd (BZ a b) w):=by
 have c:=FF 213 (λx y=>x-y) a b w g hb d Ti (λx y k l m h=>Xy x y m (AS k).2 (AS l).2 (d.below h nlr));have i:okR (λx y=>x-y) a b=BZ a b:=rfl;rw[i]at c;generalize BZ a b=r at *;obtain⟨rs,o⟩:=r;replace c:=qh c;clear i d g hb
 go_enter func182,ntmps182
 go_wp2_with fail
 refine c.o.mono ?_;rintro e p⟨rfl,hb⟩;have j:=qh hb;clear hb;go_wp2;go_ret2;exact⟨rfl,j.o⟩
def Tg:∀args w,(callFunc 181 args).run prog w=.ok (.enter 181 args) w:=λargs w=>by kernel_rfl
def Om(a b:ByteArray)(w:World)(g:a.size<=9223372036854775807)(hb:b.size<=9223372036854775807)(d:Tab w):
  Calls prog 148 #[.string a,.string b] w (PairEnd (BQ a b) w):=by
 have c:=FF 181 (λx y=>x*y) a b w g hb d Tg (λx y k l m h=>UJ x y m (AS k).2 (AS l).2 (d.below h nlr));have i:okR (λx y=>x*y) a b=BQ a b:=rfl;rw[i]at c;generalize BQ a b=r at *;obtain⟨rs,o⟩:=r;replace c:=qh c;clear i d g hb
 go_enter func148,ntmps148
 go_wp2_with fail
 refine c.o.mono ?_;rintro e p⟨rfl,hb⟩;have j:=qh hb;clear hb;go_wp2;go_ret2;exact⟨rfl,j.o⟩
def Ic(a:ByteArray)(w:World)(d:a.size<=9223372036854775807)(g:Tab w):
  Calls prog 146 #[.string a] w λe w'=>e=.returned (.bool (prs a).isSome)/\Below w.heap.size w w':=by
 have c:=Gf a w d g;obtain⟨r,x,y,h⟩:=Kl<|prs a;rw[h]at c;generalize (prs a).isSome=o at *;replace c:=qh c;clear h d g
 go_enter func146,ntmps146
 go_wp2_with fail
 refine c.o.mono ?_;rintro e w'⟨rfl,hb⟩;replace hb:=qh hb;go_wp2;go_ret;exact⟨rfl,hb.o⟩
theorem Gi:prs ⟨#[48]⟩=some 0:=by
 have:txt 0=⟨#[48]⟩:=by unfold txt txtL;rw[show negQ 0=false from rfl,show (0:Rat).num.natAbs=0 from rfl,show (0:Rat).den=1 from rfl,CC];rfl
 rw[<-this];exact Bj (by unfold fitQ;rw[show (0:Rat).num.natAbs=0 from rfl,show (0:Rat).den=1 from rfl,CC,Cb];decide)
def Oh{b:ByteArray}(h:prs b=some 0):b=⟨#[48]⟩:=by
 have c:=(AS h).1;have d:=(AS Gi).1;rw[c,d]
theorem MA:∀args w,(callFunc 214 args).run prog w=.ok (.enter 214 args) w:=λargs w=>by kernel_rfl
def VO(a b:ByteArray)(w:World)(k:a.size<=9223372036854775807)(hb:b.size<=9223372036854775807)(j:Tab w):
  Calls prog 183 #[.string a,.string b] w (PairEnd (Bp a b) w):=by
 have c1:=Ic a w k j;by_cases m:b=⟨#[48]⟩
 ·subst m;cases d:prs a with
  |some x =>
   have g:Bp a ⟨#[48]⟩=(str [],4):=by unfold Bp;rw[d,Gi];simp
   rw[g];rw[d]at c1;simp only[Option.isSome]at c1;have l:=qh c1;clear c1 k hb j d g
   go_enter func183,ntmps183
   go_wp2_with fail
   refine l.o.mono ?_;rintro e J⟨rfl,hb⟩;have B:=qh hb;clear hb;go_wp2;go_ret2;exact⟨rfl,B.o⟩
  |none =>
   have g:Bp a ⟨#[48]⟩=(str [],1):=by unfold Bp;rw[d]
   rw[g];have c2:=λp (h:Below w.heap.size w p)=>FF 214 (λx y=>x / y) a ⟨#[48]⟩ p k hb (j.below h nlr) MA (λx y s=>by rw[d]at s;simp at s);have z:okR (λx y=>x / y) a ⟨#[48]⟩=(str [],1):=by unfold okR;rw[d]
   rw[z]at c2;rw[d]at c1;simp only[Option.isSome]at c1;have l:=qh c1;have u:=qh c2;clear c1 c2 k hb j d g z
   go_enter func183,ntmps183
   go_wp2_with fail
   refine nxa l.o λF c=>?_
   go_wp2_with fail
   refine nxb (u.o _ c.o) c λG i=>?_;go_wp2;go_ret2;exact⟨rfl,i.o⟩
 have E:(b.toList==[48])=false:=BP m;have c2:=λp (h:Below w.heap.size w p)=>FF 214 (λx y=>x / y) a b p k hb (j.below h nlr) MA
  (λx y s A H D=>SG x y H (AS s).2 (AS A).2 (λe=>by subst e;exact m (Oh A)) (j.below (h.trans (D.mono h.size)) nlr))
 have g:okR (λx y=>x / y) a b=Bp a b:=by
  unfold okR Bp;cases d:prs a with
  |none=>rfl
  |some x =>
   cases C:prs b with
   |none=>rfl
   |some y=>simp only;rw[ifn (λe=>by subst e;exact m (Oh C))]
 rw[g]at c2;generalize Bp a b=r at *;obtain⟨rs,I⟩:=r;generalize (prs a).isSome=o at *;have l:=qh c1;have u:=qh c2;clear c1 c2 k hb j g m;cases o
 rotate_left
 all_goals
  go_enter func183,ntmps183
  go_wp2_with fail
  refine nxa l.o λF c=>?_
  go_wp2_with fail
  refine nxb (u.o _ c.o) c λG i=>?_;go_wp2;go_ret2;exact⟨rfl,i.o⟩
end
section
open Go.RowKit
attribute [local go_sem ↓] Go.wp_at_zero Go.wp_at_succ
def RX(p q:Bool)(B E u C a b c:ByteArray)(s:Bool)(v:Int)(s1 s2:ByteArray)(w:World)
  (D:((c.toList==[48])=true/\v=0)\/((c.toList==[48])=false/\s=true/\v=-1)\/((c.toList==[48])=false/\s=false/\v=1))
  (c0:∀wx,Below w.heap.size w wx->Calls prog 163 #[.string s1] wx λe w'=>e=.returned (.tuple #[.agg #[.bool p,.string B,.string E],.bool true])/\Below wx.heap.size wx w')
  (G:∀wx,Below w.heap.size w wx->Calls prog 163 #[.string s2] wx λe w'=>e=.returned (.tuple #[.agg #[.bool q,.string u,.string C],.bool true])/\Below wx.heap.size wx w')
  (c1:∀wx,Below w.heap.size w wx->Calls prog 166 #[.string B,.string C] wx (StrZ a wx))
  (c2:∀wx,Below w.heap.size w wx->Calls prog 166 #[.string u,.string E] wx (StrZ b wx))
  (c3:∀wx,Below w.heap.size w wx->Calls prog 164 #[.bool p,.string a,.bool (!q),.string b] wx λe w'=>e=.returned (.tuple #[.bool s,.string c])/\Below wx.heap.size wx w') :
  Calls prog 127 #[.string s1,.string s2] w (IntEnd v w):=by
 replace c0:=qh c0;have I:=qh G;clear G;replace c1:=qh c1;replace c2:=qh c2;replace c3:=qh c3;have Q:=qh D;clear D
 go_enter func127,ntmps127
 go_wp2_with fail
 refine(c0.o _ blr).mono ?_;rintro e k⟨rfl,l⟩;have P:=qh l;have z:=qh<|l.alloc l.size (.cells #[.bool p,.string B,.string E] 180);clear l
 go_wp2_with fail
 refine(I.o _ z.o).mono ?_;rintro e o⟨rfl,m⟩;have F:=qh m;have j:=qh<|(Af z.o m).alloc (Nat.le_trans z.o.size m.size) (.cells #[.bool q,.string u,.string C] 180);clear m
 go_wp2_with fail
 obtain⟨W,H⟩:=exq<|o.alloc (.cells #[.bool q,.string u,.string C] 180);have d:∀g,Below W.heap.size W g->(Below W.heap.size W g/\
  g.cell? (Ad k.heap.size 0)=some (.bool p)/\g.cell? (Ad k.heap.size 1)=some (.string B)/\g.cell? (Ad k.heap.size 2)=some (.string E)/\
  g.cell? (Ad o.heap.size 0)=some (.bool q)/\g.cell? (Ad o.heap.size 1)=some (.string u)/\g.cell? (Ad o.heap.size 2)=some (.string C)):=by
  intro g h;subst H;have U:=F.o.size;rw[World.size_alloc]at U;have J:∀(i:Nat) (v:Value),(k.alloc (.cells #[.bool p,.string B,.string E] 180)).cell? (Ad k.heap.size i)=some v->g.cell? (Ad k.heap.size i)=some v:=by
   intro i v D;refine(h.cell (p:=(Ad k.heap.size i)) (by rw[World.size_alloc];show k.heap.size<_;omega)).trans ?_;rw[World.cell?_alloc_past (hn:=by omega)];exact(F.o.cell (p:=(Ad k.heap.size i)) (by rw[World.size_alloc];show k.heap.size<_;omega)).trans D
  have K:∀(i:Nat) (v:Value),(o.alloc (.cells #[.bool q,.string u,.string C] 180)).cell? (Ad o.heap.size i)=some v->g.cell? (Ad o.heap.size i)=some v:=by
   intro i v D;exact(h.cell (p:=(Ad o.heap.size i)) (by rw[World.size_alloc];show o.heap.size<_;omega)).trans D
  exact⟨h,J 0 _ (by simp[go_sem]),J 1 _ (by simp[go_sem]),J 2 _ (by simp[go_sem]),K 0 _ (by simp[go_sem]),K 1 _ (by simp[go_sem]),K 2 _ (by simp[go_sem])⟩
 rw[<-H];rw[<-H]at j;replace d:=qh d;replace H:=qh H;have R:Below W.heap.size W W.drew:=blr.drew
 go_region_held2 (λg=>Below W.heap.size W g/\
  g.cell? (Ad k.heap.size 0)=some (.bool p)/\g.cell? (Ad k.heap.size 1)=some (.string B)/\g.cell? (Ad k.heap.size 2)=some (.string E)/\
  g.cell? (Ad o.heap.size 0)=some (.bool q)/\g.cell? (Ad o.heap.size 1)=some (.string u)/\g.cell? (Ad o.heap.size 2)=some (.string C))
  (first|exact d.o _ (by assumption)|exact d.o _ blr.drew)
  (first
   |(go_at_call_of 166 (Value.string B);refine(c1.o _ (Af j.o (by assumption))).mono ?_;rintro e k⟨rfl,l⟩;have S:=Af (by assumption) l)
   |(go_at_call_of 166 (Value.string u);refine(c2.o _ (Af j.o (by assumption))).mono ?_;rintro e o⟨rfl,m⟩;have T:=Af (by assumption) m)
   |(go_at_call 165;refine(AZ _ _).mono ?_;rintro e w'⟨rfl,rfl⟩)
   |(go_at_call 164;refine(c3.o _ (Af j.o (by assumption))).mono ?_;rintro e X⟨rfl,L⟩;have N:=Af (by assumption) L))
 have A:=qh N
 rcases Q.o with⟨O,rfl⟩|⟨O,rfl,rfl⟩|⟨O,rfl,rfl⟩
 ·go_wp2;go_ret;exact⟨rfl,Af j.o A.o⟩
 ·go_wp2;go_ret;exact⟨rfl,Af j.o A.o⟩
 go_wp2;go_ret;exact⟨rfl,Af j.o A.o⟩
theorem WU(n:Nat):((str (dec n)).toList==[48])=decide (n=0):=by
 rw[str_eq,decide_eq_decide];exact⟨λh=>CB (h.trans CC.symm),λh=>by rw[h,CC]⟩
def Kn(a b:ByteArray)(w:World)(D:a.size<=9223372036854775807)(hb:b.size<=9223372036854775807)(E:Tab w):
  Calls prog 127 #[.string a,.string b] w (IntEnd (Bo a b) w):=by
 have m:∀c,Below w.heap.size w c->Tab c:=λc h=>E.below h nlr;have c1:=λc (h:Below w.heap.size w c)=>Gf a c D (m c h);have c2:=λc (h:Below w.heap.size w c)=>Gf b c hb (m c h);cases l:prs a with
 |none =>
  have p:Bo a b=0:=by unfold Bo;rw[l]
  rw[p];simp only[l,Option.isSome,prsV]at c1;generalize (prs b).isSome=o at c2;obtain⟨r,x,y,G⟩:=Kl<|prs b;rw[G]at c2;have B:=qh c1;clear c1;have C:=qh c2;clear c2 p l G E D hb m;unfold NoNum nvS at B
  go_enter func127,ntmps127
  go_wp2_with fail
  refine(B.o _ blr).mono ?_;rintro e K⟨rfl,d⟩;have g:=qh<|d.alloc d.size (.cells #[.bool false,.string ⟨#[]⟩,.string ⟨#[]⟩] 180);clear d
  go_wp2_with fail
  refine(C.o _ g.o).mono ?_;rintro e L⟨rfl,j⟩;have i:=qh<|Af g.o j;clear j;go_wp2;go_ret;exact⟨rfl,i.o.alloc i.o.size _⟩
 |some x =>
  simp only[l,Option.isSome,prsV]at c1;cases u:prs b with
  |none =>
   have p:Bo a b=0:=by unfold Bo;rw[l,u]
   rw[p];simp only[u,Option.isSome,prsV]at c2;have B:=qh c1;clear c1;have C:=qh c2;clear c2 p l u E D hb m;unfold NoNum nvS at C;unfold nv nvS at B
   go_enter func127,ntmps127
   go_wp2_with fail
   refine(B.o _ blr).mono ?_;rintro e K⟨rfl,d⟩;have g:=qh<|d.alloc d.size (.cells #[.bool (negQ x),.string (str (dec x.num.natAbs)),.string (str (dec x.den))] 180);clear d
   go_wp2_with fail
   refine(C.o _ g.o).mono ?_;rintro e L⟨rfl,j⟩;have i:=qh<|Af g.o j;clear j;go_wp2;go_ret;exact⟨rfl,i.o.alloc i.o.size _⟩
  |some y =>
   have z:=(AS l).2;have A:=(AS u).2;have p:Bo a b=cmpQ x y:=by unfold Bo;rw[l,u]
   rw[p];simp only[u,Option.isSome,prsV]at c2;have H:fits (x.num.natAbs*y.den):=Bn z.1 A.2;have I:fits (y.num.natAbs*x.den):=Bn A.1 z.2;have J:fits (x.num.natAbs*y.den+y.num.natAbs*x.den):=FJ z.1 A.2 A.1 z.2;refine RX (negQ x) (negQ y) _ _ _ _ (str (dec (x.num.natAbs*y.den))) (str (dec (y.num.natAbs*x.den))) (str (dec (sumF (negQ x) (x.num.natAbs*y.den) (!negQ y) (y.num.natAbs*x.den)).2)) (sumF (negQ x) (x.num.natAbs*y.den) (!negQ y) (y.num.natAbs*x.den)).1 (cmpQ x y) a b w ?_ c1 c2
    (λc h=>CI _ _ c (BD z) (AY A) H (m c h)) (λc h=>CI _ _ c (BD A) (AY z) I (m c h))
    (λc h=>Ks (negQ x) (!negQ y) _ _ c J (m c h))
   rw[Mi x y,WU];generalize sumF (negQ x) (x.num.natAbs*y.den) (!negQ y) (y.num.natAbs*x.den)=r;obtain⟨s,k⟩:=r;by_cases F:k=0
   ·left;simp[F]
   right;cases s<;>simp[F]
end
section
open Go.RowKit
abbrev fv(g:FuncId):Value:=.func (.func g) #[] #[]
def ring0:Array Value:=#[.string ⟨#[]⟩,.string ⟨#[]⟩,.bool false,.nilFunc,.nilFunc,.nilFunc,.nilFunc,.nilFunc]
def ring1:Array Value:=#[.string ⟨#[105,110,102]⟩,.string ⟨#[48]⟩,.bool true,fv 143,fv 144,fv 145,fv 146,fv 146]
def ring2:Array Value:=#[.string ⟨#[48]⟩,.string ⟨#[49]⟩,.bool false,fv 147,fv 148,fv 149,fv 150,fv 151]
def ring3:Array Value:=#[.string ⟨#[48]⟩,.string ⟨#[49]⟩,.bool false,fv 143,fv 148,fv 152,fv 150,fv 151]
def CM:Array Value:=#[.string ⟨#[]⟩,.string ⟨#[]⟩,.bool false,.nilFunc,.nilFunc,.nilFunc,.nilFunc,.nilFunc,
 .string ⟨#[105,110,102]⟩,.string ⟨#[48]⟩,.bool true,fv 143,fv 144,fv 145,fv 146,fv 146,
 .string ⟨#[48]⟩,.string ⟨#[49]⟩,.bool false,fv 147,fv 148,fv 149,fv 150,fv 151,
 .string ⟨#[48]⟩,.string ⟨#[49]⟩,.bool false,fv 143,fv 148,fv 152,fv 150,fv 151]
theorem Lq{P:Program}{g:Array Oper}{d:List Oper}{i:Oper}{a:Act}{w:World}{Q:Exit->Act->World->Prop}(j:i.guard=none)(t:TypeId)(x y:Operand)(m:i.op=.store t x y)
  (c c':Array Value) (p:a.eval x=.pointer (some (Ad w.heap.size 0))) (s:a.eval y=.agg c') (hi:(P.info? t).map (·.size)=some c'.size) (o:c.size=c'.size) (k:c'.all (·.oneCell')=true)
  (h:wpList P g Q d (a.put i.dst undef) (w.alloc (.cells c' t))):wpList P g Q (i::d) a (w.alloc (.cells c t)) :=
 wpList_plain j λ_ l=>by
  unfold Oper.wp execOp;simp only[m,p,s,Instr.storeAt,Instr.sureAddr,Sem.run_bind,Sem.run_pure,Result.andThen_ok,run_storeVar_new w t c c' hi o k];exact l _ _ h
def Oy{fn:Func}{p:Tmp}{d:TypeId}(h:fn.results=#[.cell p d])(c:Array Value)(P:Program)(w:World):
  (results fn c).run P w=((asAddr (c.getD p undef)).run P w).andThen λa w₁=>(loadVar d a).run P w₁:=by
 simp only[results,h];simp[Sem.run_bind,Result.andThen]
theorem KA(w:World):Calls prog 107 #[] w λe w'=>e=.returned (.agg CM)/\Below w.heap.size w w':=by
 have hi:(prog.info? 139).map (·.size)=some CM.size:=by kernel_rfl
 have c:CM.all (·.oneCell')=true:=by decide +kernel
 replace hi:=qh hi;replace c:=qh c
 go_enter func107,ntmps107
 go_wp2_with (refine Lq rfl 139 (.tmp 0) (.tmp 4) rfl _ CM rfl rfl hi.o rfl c.o ?_)
 refine bodyPost_ret (v:=.agg CM) ?_ rfl ⟨rfl,blr.alloc nlr _⟩;rw[Oy rfl];exact run_loadVar_new w 139 CM 4 91 underlying139 hi.o
def there8{w wk:World}{c:Array Value}{t:TypeId}(g:c.size=8)(h:Below (w.alloc (.cells c t)).heap.size (w.alloc (.cells c t)) wk):wk.there w.heap.size 0 8:=by
 intro j i;have d:w.heap.size<(w.alloc (.cells c t)).heap.size:=by simp
 have e:=h.cell (p:=(Ad w.heap.size (0+j))) d;have f:=h.frozen (p:=(Ad w.heap.size (0+j))) d;rw[e,f]
 constructor
 ·rw[cell_of_row _ _ (0+j) c t (0,0) (heap_alloc_last w _)];simp[g,i]
 exact World.frozen?_alloc_new w c t _
def OfEnd(r:Array Value)(b:Bool)(w:World)(e:Ending)(w':World):Prop:=e=.returned (.tuple #[.agg r,.bool b])/\Below w.heap.size w w'
def Kz{fn:Func}{p u:Tmp}(h:fn.results=#[.cell p 91,.tmp u])(c:Array Value)(W:World)(b:Nat)(r:List Value)(v:Value)(g:c.getD p undef=.pointer (some (Ad b 0)))(j:c.getD u undef=v)
  (i:r.length=8) (d:W.rangeAt b 0 r):(results fn c).run prog W=.ok (.tuple #[.agg r.toArray,v]) W:=by
 rw[results_cell_tmp h,g,j];have hi:(prog.info? 91).map (·.size)=some r.length:=by rw[i];kernel_rfl
 have:=run_loadVar_mid (P:=prog) W b 0 91 r _ d underlying91 rfl hi;show ((loadVar 91 (Ad b 0)).run prog W).andThen _=_;rw[this];rfl
def Oo(w:World)(c:Array Value)(t:TypeId):(w.alloc (.cells c t)).rangeAt w.heap.size 0 c.toList:=by
 intro j v d;rw[cell_of_row _ _ (0+j) c t (0,0) (heap_alloc_last w _)];rw[Nat.zero_add];rw[Array.getElem?_toList]at d;exact d
def UY(k:Int)(w:World)(d:k<1\/3<k):Calls prog 56 #[.int .i64 k] w (OfEnd ring0 false w):=by
 have hi:(prog.info? 91).map (·.size)=some ring0.size:=by kernel_rfl
 have c:ring0.all (·.oneCell')=true:=by decide +kernel
 replace hi:=qh hi;replace c:=qh c
 rcases d with d|d
 ·go_enter func56,ntmps56
  go_wp2_with (refine Lq rfl 91 (.tmp 2) (.tmp 10) rfl _ ring0 rfl rfl hi.o rfl c.o ?_)
  exact bodyPost_ret (Kz rfl _ _ w.heap.size ring0.toList (.bool false) rfl rfl rfl (Oo w ring0 _)) rfl ⟨rfl,blr.alloc nlr _⟩
 have g:decide (k<1)=false:=by rw[decide_eq_false_iff_not];omega
 go_enter func56,ntmps56
 go_wp2_with (refine Lq rfl 91 (.tmp 2) (.tmp 10) rfl _ ring0 rfl rfl hi.o rfl c.o ?_)
 exact bodyPost_ret (Kz rfl _ _ w.heap.size ring0.toList (.bool false) rfl rfl rfl (Oo w ring0 _)) rfl ⟨rfl,blr.alloc nlr _⟩
theorem LU{B b:Nat}{a:World}:∀{w:World},Below B a w->B<=b->∀(vs:List Value) (o:Nat),Below B a (w.setCells b o vs)
 |_,h,_,[],_=>h
 |_,h,hB,v::vs,o=>LU (h.setCell (p:=(Ad b o)) hB v) hB vs (o+1)
def Kb(k:Int)(l R:Array Value)(w:World)(p:1<=k)(z:k<=3)(c:R.size=8)(m:R.all (·.oneCell')=true)(o:∀wx,Calls prog 107 #[] wx λe w'=>e=.returned (.agg l)/\Below wx.heap.size wx w')
  (B:∀w,(Instr.index 139 (.agg l) (.int .i64 k)).run prog w=.ok (.agg R) w):Calls prog 56 #[.int .i64 k] w (OfEnd R true w):=by
 have hi:(prog.info? 91).map (·.size)=some R.size:=by rw[c];kernel_rfl
 replace hi:=qh hi;replace m:=qh m;replace o:=qh o;replace c:=qh c;have s:decide (k<1)=false:=by rw[decide_eq_false_iff_not];omega
 have u:decide (3<k)=false:=by rw[decide_eq_false_iff_not];omega
 have d:Below w.heap.size w (w.alloc (.cells ring0 91)):=blr.alloc nlr _;replace d:=qh d
 go_enter func56,ntmps56
 go_wp2_with fail
 refine(o.o _).mono ?_;rintro e A⟨rfl,g⟩;replace g:=qh g;have j:=there8 rfl g.o;rw[<-c.o]at j;replace j:=qh j
 go_wp2_with (refine wpList_store_mid rfl 91 (.tmp 2) (.tmp 13) rfl w.heap.size 0 R rfl rfl j.o hi.o m.o ?_)
 have i:=World.rangeAt_setCells_same A w.heap.size 0 R.toList (by rw[Array.length_toList];exact j.o);have h:=Kz (fn:=f56) rfl #[.int .i64 k,undef,.pointer (some (Ad w.heap.size 0)),.bool true,.int .i64 k,.bool false,.bool false,.int .i64 k,.bool false,.bool false,undef,.agg l,.int .i64 k,.agg R] _ w.heap.size R.toList (.bool true) rfl rfl (by rw[Array.length_toList];exact c.o) i;rw[Array.toArray_toList]at h;exact bodyPost_ret h rfl ⟨rfl,LU (d.o.trans (g.o.mono d.o.size)) nlr _ _⟩
def TI(w:World):(Instr.index 139 (.agg CM) (.int .i64 1)).run prog w=.ok (.agg ring1) w:=by kernel_rfl
def of_1(w:World):Calls prog 56 #[.int .i64 1] w (OfEnd ring1 true w) :=
 Kb 1 CM ring1 w (by decide) (by decide) rfl (by decide +kernel) KA TI
def TJ(w:World):(Instr.index 139 (.agg CM) (.int .i64 2)).run prog w=.ok (.agg ring2) w:=by kernel_rfl
def of_2(w:World):Calls prog 56 #[.int .i64 2] w (OfEnd ring2 true w) :=
 Kb 2 CM ring2 w (by decide) (by decide) rfl (by decide +kernel) KA TJ
def TK(w:World):(Instr.index 139 (.agg CM) (.int .i64 3)).run prog w=.ok (.agg ring3) w:=by kernel_rfl
def of_3(w:World):Calls prog 56 #[.int .i64 3] w (OfEnd ring3 true w) :=
 Kb 3 CM ring3 w (by decide) (by decide) rfl (by decide +kernel) KA TK
def Fs(k:Int):Array Value:=if k=1 then ring1 else if k=2 then ring2 else if k=3 then ring3 else ring0
def Hz(k:Int)(w:World):Calls prog 56 #[.int .i64 k] w (OfEnd (Fs k) (Au k) w):=by
 by_cases h:k<1\/3<k
 ·have c:Fs k=ring0:=by unfold Fs;rw[ifn (by omega),ifn (by omega),ifn (by omega)]
  have d:Au k=false:=by unfold Au;rw[Bool.and_eq_false_iff];simp;omega
  rw[c,d];exact UY k w h
 have:k=1\/k=2\/k=3:=by omega
 rcases this with rfl|rfl|rfl
 ·exact of_1 w
 ·exact of_2 w
 exact of_3 w
theorem Ce:infS.toList=[105,110,102]:=by rw[Lib.toList_data];rfl
theorem CY:lowS.toList=[45,105,110,102]:=by rw[Lib.toList_data];rfl
def GC{q:Rat}(h:fitQ q):((txt q).toList==[105,110,102])=false:=by
 refine BP (l:=[105,110,102]) (λe=>?_);have:=Bj h;rw[e]at this;have c:=Ib;unfold infS at c;rw[show str [105,110,102]=(⟨#[105,110,102]⟩:ByteArray) from rfl,c]at this;simp at this
def Lg{q:Rat}(h:fitQ q):((txt q).toList==[45,105,110,102])=false:=by
 refine BP (l:=[45,105,110,102]) (λe=>?_);have:=Bj h;rw[e]at this;have c:=Gh;unfold lowS at c;rw[show str [45,105,110,102]=(⟨#[45,105,110,102]⟩:ByteArray) from rfl,c]at this;simp at this
def Oj{x y:Rat}(c:fitQ x)(d:fitQ y):Bo (txt x) (txt y)=cmpQ x y:=by unfold Bo;rw[Bj c,Bj d]
theorem GE(v u:V)(w:World)(A:fitV v)(p:fitV u)(S:Tab w):Calls prog 85 #[.string (vtxt v),.string (vtxt u)] w (IntEnd (cmpV v u) w):=by
 have K:∀(a b:ByteArray) (z:Int) (g:z=0/\a=b\/a≠b) (c:a≠b->a≠infS->a≠lowS->b≠infS->b≠lowS->Calls prog 127 #[.string a,.string b] w (IntEnd z w))
   (B:a≠b->((a=lowS\/b=infS)/\z=-1)\/(a≠lowS/\b≠infS/\(b=lowS\/a=infS)/\z=1)\/(a≠lowS/\b≠infS/\b≠lowS/\a≠infS)),
   Calls prog 85 #[.string a,.string b] w (IntEnd z w):=by
  intro a b z g c B
  rcases g with⟨rfl,rfl⟩|g
  ·clear c B
   go_enter func85,ntmps85
   go_wp2;go_ret;exact⟨rfl,blr⟩
  have R:(a.toList==b.toList)=false:=by rw[beq_eq_false_iff_ne];exact ND g
  have o:∀s:ByteArray,s≠lowS->(s.toList==[45,105,110,102])=false:=λs h=>BP (l:=[45,105,110,102]) h;have D:∀s:ByteArray,s≠infS->(s.toList==[105,110,102])=false:=λs h=>BP (l:=[105,110,102]) h;replace o:=qh o;replace D:=qh D
  rcases B g with⟨d,rfl⟩|⟨d,k,m,rfl⟩|⟨d,k,m,E⟩
  ·clear c B;by_cases i:a=lowS
   ·have G:(a.toList==[45,105,110,102])=true:=by rw[i,CY];rfl
    clear g d i
    go_enter func85,ntmps85
    go_wp2;go_ret;exact⟨rfl,blr⟩
   have G:=o.o a i;have L:(b.toList==[105,110,102])=true:=by rw[d.resolve_left i,Ce];rfl
   clear g d i
   go_enter func85,ntmps85
   go_wp2;go_ret;exact⟨rfl,blr⟩
  ·clear c B;have G:=o.o a d;have L:=D.o b k;by_cases j:b=lowS
   ·have N:(b.toList==[45,105,110,102])=true:=by rw[j,CY];rfl
    cases O:(a.toList==[105,110,102])
    all_goals
     clear g d k m j
     go_enter func85,ntmps85
     go_wp2;go_ret;exact⟨rfl,blr⟩
   have N:=o.o b j;have O:(a.toList==[105,110,102])=true:=by rw[m.resolve_left j,Ce];rfl
   clear g d k m j
   go_enter func85,ntmps85
   go_wp2;go_ret;exact⟨rfl,blr⟩
  have G:=o.o a d;have L:=D.o b k;have N:=o.o b m;have O:=D.o a E;have C:=qh<|c g E d k m;clear c B g d k m E
  go_enter func85,ntmps85
  go_wp2_with fail
  refine nxa C.o λT Q=>?_;go_wp2;go_ret;exact⟨rfl,Q.o⟩
 refine K _ _ _ ?_ ?_ ?_
 ·by_cases h:v=u
  ·subst h;exact .inl ⟨(GW v v).2 rfl,rfl⟩
  exact .inr<|λe=>h (Ln A p e)
 ·intro _ d k m E;cases v with
  |inf=>exact absurd rfl d
  |low=>exact absurd rfl k
  |fin x =>
   cases u with
   |inf=>exact absurd rfl m
   |low=>exact absurd rfl E
   |fin y =>
    have P:=Kn (txt x) (txt y) w (by have:=Df A;omega) (by have:=Df p;omega) S;rw[Oj A p]at P;exact P
 intro h;have F:infS≠lowS:=by decide
 have H:∀q:Rat,fitQ q->txt q≠infS:=λq J e=>by have:=GC J;rw[e,Ce]at this;simp at this
 have I:∀q:Rat,fitQ q->txt q≠lowS:=λq J e=>by have:=Lg J;rw[e,CY]at this;simp at this
 cases v with
 |inf =>
  cases u with
  |inf=>exact absurd rfl h
  |low=>exact .inr (.inl ⟨F,Ne.symm F,.inl rfl,rfl⟩)
  |fin y=>exact .inr (.inl ⟨F,H y p,.inr rfl,rfl⟩)
 |low =>
  cases u with
  |inf=>exact .inl ⟨.inl rfl,rfl⟩
  |low=>exact absurd rfl h
  |fin y=>exact .inl ⟨.inl rfl,rfl⟩
 |fin x =>
  cases u with
  |inf=>exact .inl ⟨.inr rfl,rfl⟩
  |low=>exact .inr (.inl ⟨I x A,Ne.symm F,.inl rfl,rfl⟩)
  |fin y=>exact .inr (.inr ⟨I x A,H y p,I y p,H x A⟩)
variable{a:ByteArray}{k:Int}
theorem Du:txt 0=⟨#[48]⟩:=((AS Gi).1).symm
def EV:fitQ 0:=(AS Gi).2
theorem Fl:prs ⟨#[49]⟩=some 1:=by
 have:txt 1=⟨#[49]⟩:=by unfold txt txtL;rw[show negQ 1=false from rfl,show (1:Rat).num.natAbs=1 from rfl,show (1:Rat).den=1 from rfl,Cb];rfl
 rw[<-this];exact Bj (by unfold fitQ;rw[show (1:Rat).num.natAbs=1 from rfl,show (1:Rat).den=1 from rfl,Cb];decide)
theorem Eh:txt 1=⟨#[49]⟩:=((AS Fl).1).symm
def ET:fitQ 1:=(AS Fl).2
def natB(a:ByteArray):Bool:=match prs a with|some q=>decide (0<=q)|none=>false
def posB(a:ByteArray):Bool:=match prs a with|some q=>decide (0<q)|none=>false
def Km{q:Rat}(h:prs a=some q):Bo a ⟨#[48]⟩=cmpQ q 0:=by unfold Bo;rw[h,Gi]
theorem YB(a:ByteArray):Am 1 a=(prs a).isSome:=by
 unfold Am rdV;by_cases c:a=infS
 ·rw[ifp c,c,Ib];rfl
 rw[ifn c];by_cases d:a=lowS
 ·rw[ifp d,d,Gh];rfl
 rw[ifn d];cases prs a with
 |none=>rfl
 |some q=>simp[wtV]
theorem Qo(g:k=2\/k=3)(a:ByteArray):Am k a=posB a:=by
 unfold Am rdV posB;by_cases c:a=infS
 ·rw[ifp c,c,Ib];rfl
 rw[ifn c];by_cases d:a=lowS
 ·rw[ifp d,d,Gh];rfl
 rw[ifn d];cases prs a with
 |none=>rfl
 |some q =>
  show decide (wtV k (.fin q))=decide (0<q);rw[decide_eq_decide]
  constructor
  ·intro h;rcases h with h|h
   ·omega
   exact h.2
  intro h;exact .inr ⟨g,h⟩
def Qd(c:k=1\/k=2\/k=3):Ak k infS=true:=by
 have:vprs k infS=some .inf:=Dh.2 ⟨by simp[rdV],by unfold okV;omega⟩;unfold Ak;rw[this];rfl
theorem Qe:Ak 1 lowS=true:=by
 have:vprs 1 lowS=some .low:=Dh.2 ⟨by simp[rdV,show lowS≠infS by decide],rfl⟩;unfold Ak;rw[this];rfl
def Qb(c:a≠infS)(d:a≠lowS):Ak 1 a=(prs a).isSome:=by
 unfold Ak vprs rdV;rw[ifn c,ifn d];cases prs a with
 |none=>rfl
 |some q=>simp[okV]
theorem Qc(g:k=2\/k=3)(d:a≠infS):Ak k a=natB a:=by
 unfold Ak vprs rdV natB;rw[ifn d];by_cases c:a=lowS
 ·rw[ifp c,c,Gh];have:decide (okV k .low)=false:=by rw[decide_eq_false_iff_not];intro h;change k=1 at h;omega
  simp[Option.filter,this]
 rw[ifn c];cases prs a with
 |none=>rfl
 |some q =>
  have:decide (okV k (.fin q))=decide (0<=q):=by
   rw[decide_eq_decide]
   constructor
   ·intro h;rcases h with h|h
    ·omega
    exact h.2
   intro h;exact .inr ⟨g,h⟩
  simp only[Option.map_some,Option.filter,this];cases decide (0<=q)<;>rfl
def BoolE(b:Bool)(w:World)(e:Ending)(w':World):Prop:=e=.returned (.bool b)/\Below w.heap.size w w'
def Oq(a:ByteArray)(w:World)(c:a.size<=9223372036854775807)(d:Tab w):Calls prog 146 #[.string a] w (BoolE (prs a).isSome w):=Ic a w c d
def NB(a:ByteArray)(w:World)(i:a.size<=9223372036854775807)(j:Tab w):Calls prog 150 #[.string a] w (BoolE (natB a) w):=by
 have c1:=Ic a w i j;have c2:=λm (h:Below w.heap.size w m)=>Kn a ⟨#[48]⟩ m i (by decide) (j.below h nlr);cases d:prs a with
 |none =>
  have g:natB a=false:=by unfold natB;rw[d]
  rw[g];rw[d]at c1;simp only[Option.isSome]at c1;have k:=qh c1;clear c1 c2 d g i j
  go_enter func150,ntmps150
  go_wp2_with fail
  refine nxa k.o λp c=>?_;go_wp2;go_ret;exact⟨rfl,c.o⟩
 |some q =>
  have g:natB a=decide (0<=q):=by unfold natB;rw[d]
  rw[Km d]at c2;rw[g];rw[d]at c1;simp only[Option.isSome]at c1;have k:=qh c1;clear c1;have hd:(decide (0<=q)=decide (0<=cmpQ q 0)):=by
   rcases BJ q 0 with⟨h,e⟩|⟨h,e⟩|⟨h,e⟩<;>rw[e]
   ·rw[decide_eq_decide];simp;exact Rat.not_le.2 h
   ·subst h;rfl
   rw[decide_eq_decide];simp;exact Rat.le_of_lt h
  rw[hd];have o:cmpQ q 0=-1\/cmpQ q 0=0\/cmpQ q 0=1:=by rcases BJ q 0 with⟨h,e⟩|⟨h,e⟩|⟨h,e⟩<;>simp[e]
  generalize cmpQ q 0=z at *;replace c2:=qh c2;clear d g i j hd
  rcases o with rfl|rfl|rfl
  all_goals
   go_enter func150,ntmps150
   go_wp2_with fail
   refine nxa k.o λp c=>?_
   go_wp2_with fail
   refine nxb (c2.o _ c.o) c λs l=>?_;go_wp2;go_ret;exact⟨rfl,l.o⟩
def Oe(a:ByteArray)(w:World)(i:a.size<=9223372036854775807)(j:Tab w):Calls prog 151 #[.string a] w (BoolE (posB a) w):=by
 have c1:=Ic a w i j;have c2:=λm (h:Below w.heap.size w m)=>Kn a ⟨#[48]⟩ m i (by decide) (j.below h nlr);cases d:prs a with
 |none =>
  have g:posB a=false:=by unfold posB;rw[d]
  rw[g];rw[d]at c1;simp only[Option.isSome]at c1;have k:=qh c1;clear c1 c2 d g i j
  go_enter func151,ntmps151
  go_wp2_with fail
  refine nxa k.o λp c=>?_;go_wp2;go_ret;exact⟨rfl,c.o⟩
 |some q =>
  have g:posB a=decide (0<q):=by unfold posB;rw[d]
  rw[Km d]at c2;rw[g];rw[d]at c1;simp only[Option.isSome]at c1;have k:=qh c1;clear c1;have hd:(decide (0<q)=decide (0<cmpQ q 0)):=by
   rcases BJ q 0 with⟨h,e⟩|⟨h,e⟩|⟨h,e⟩<;>rw[e]
   ·rw[decide_eq_decide];simp;exact Rat.not_lt.2<|Rat.le_of_lt h
   ·subst h;rfl
   rw[decide_eq_decide];simp;exact h
  rw[hd];have o:cmpQ q 0=-1\/cmpQ q 0=0\/cmpQ q 0=1:=by rcases BJ q 0 with⟨h,e⟩|⟨h,e⟩|⟨h,e⟩<;>simp[e]
  generalize cmpQ q 0=z at *;replace c2:=qh c2;clear d g i j hd
  rcases o with rfl|rfl|rfl
  all_goals
   go_enter func151,ntmps151
   go_wp2_with fail
   refine nxa k.o λp c=>?_
   go_wp2_with fail
   refine nxb (c2.o _ c.o) c λs l=>?_;go_wp2;go_ret;exact⟨rfl,l.o⟩
def cell_kept{w wk:World}{c:Array Value}{t:TypeId}(h:Below (w.alloc (.cells c t)).heap.size (w.alloc (.cells c t)) wk)(i:Nat):wk.cell? (Ad w.heap.size i)=c[i]?:=by
 have d:w.heap.size<(w.alloc (.cells c t)).heap.size:=by simp
 exact(h.cell (p:=(Ad w.heap.size i)) d).trans (cell_of_row _ _ i c t (0,0) (heap_alloc_last w _))
def RI(v u:V)(w:World)(m:fitV v)(l:fitV u)(k:Tab w):Calls prog 143 #[.agg ring1,.string (vtxt v),.string (vtxt u)] w (PairEnd (limV (Av 1 v u)) w):=by
 have c:Below w.heap.size w (w.alloc (.cells ring1 91)):=blr.alloc nlr _;have c1:=λp (h:Below w.heap.size w p)=>GE v u p m l (k.below h nlr);have j:Av 1 v u=if 0<cmpV v u then u else v:=by unfold Av;rfl
 rw[j];have i:limV (if 0<cmpV v u then u else v)=(if 0<cmpV v u then vtxt u else vtxt v,0):=by split<;>(rw[Et];assumption)
 rw[i];have s:=EN v u;generalize cmpV v u=z at *;replace c1:=qh c1;clear k j i;replace c:=qh c;unfold ring1 at c ⊢;generalize vtxt v=a at *;generalize vtxt u=b at *;clear m l
 rcases s with rfl|rfl|rfl
 ·change Calls _ _ _ _ (PairEnd (a,0) w)
  go_enter func143,ntmps143
  go_wp2_with fail
  refine(c1.o _ c.o).mono ?_;rintro e o⟨rfl,hb⟩;have g:=qh hb;have d:=qh<|Af c.o hb;clear hb;have k2:=cell_kept g.o 2;go_wp2;go_ret2;exact⟨rfl,d.o⟩
 ·change Calls _ _ _ _ (PairEnd (a,0) w)
  go_enter func143,ntmps143
  go_wp2_with fail
  refine(c1.o _ c.o).mono ?_;rintro e o⟨rfl,hb⟩;have g:=qh hb;have d:=qh<|Af c.o hb;clear hb;have k2:=cell_kept g.o 2;go_wp2;go_ret2;exact⟨rfl,d.o⟩
 change Calls _ _ _ _ (PairEnd (b,0) w)
 go_enter func143,ntmps143
 go_wp2_with fail
 refine(c1.o _ c.o).mono ?_;rintro e o⟨rfl,hb⟩;have g:=qh hb;have d:=qh<|Af c.o hb;clear hb;have k2:=cell_kept g.o 2;go_wp2;go_ret2;exact⟨rfl,d.o⟩
def RJ(v u:V)(w:World)(m:fitV v)(l:fitV u)(k:Tab w):Calls prog 143 #[.agg ring3,.string (vtxt v),.string (vtxt u)] w (PairEnd (limV (Av 3 v u)) w):=by
 have c:Below w.heap.size w (w.alloc (.cells ring3 91)):=blr.alloc nlr _;have c1:=λp (h:Below w.heap.size w p)=>GE v u p m l (k.below h nlr);have j:Av 3 v u=if cmpV v u<0 then u else v:=by unfold Av;rfl
 rw[j];have i:limV (if cmpV v u<0 then u else v)=(if cmpV v u<0 then vtxt u else vtxt v,0):=by split<;>(rw[Et];assumption)
 rw[i];have s:=EN v u;generalize cmpV v u=z at *;replace c1:=qh c1;clear k j i;replace c:=qh c;unfold ring3 at c ⊢;generalize vtxt v=a at *;generalize vtxt u=b at *;clear m l
 rcases s with rfl|rfl|rfl
 ·change Calls _ _ _ _ (PairEnd (b,0) w)
  go_enter func143,ntmps143
  go_wp2_with fail
  refine(c1.o _ c.o).mono ?_;rintro e o⟨rfl,hb⟩;have g:=qh hb;have d:=qh<|Af c.o hb;clear hb;have k2:=cell_kept g.o 2;go_wp2;go_ret2;exact⟨rfl,d.o⟩
 ·change Calls _ _ _ _ (PairEnd (a,0) w)
  go_enter func143,ntmps143
  go_wp2_with fail
  refine(c1.o _ c.o).mono ?_;rintro e o⟨rfl,hb⟩;have g:=qh hb;have d:=qh<|Af c.o hb;clear hb;have k2:=cell_kept g.o 2;go_wp2;go_ret2;exact⟨rfl,d.o⟩
 change Calls _ _ _ _ (PairEnd (a,0) w)
 go_enter func143,ntmps143
 go_wp2_with fail
 refine(c1.o _ c.o).mono ?_;rintro e o⟨rfl,hb⟩;have g:=qh hb;have d:=qh<|Af c.o hb;clear hb;have k2:=cell_kept g.o 2;go_wp2;go_ret2;exact⟨rfl,d.o⟩
def XC(v u:V)(w:World)(i:fitV v)(g:fitV u)(lv:v≠.low)(lu:u≠.low)(j:Tab w):Calls prog 147 #[.agg ring2,.string (vtxt v),.string (vtxt u)] w (PairEnd (limV (Av 2 v u)) w):=by
 have c:Below w.heap.size w (w.alloc (.cells ring2 91)):=blr.alloc nlr _;rw[BY];cases v with
 |low=>exact absurd rfl lv
 |inf =>
  have d:limV (addV .inf u)=(infS,0):=by cases u<;>rfl
  rw[d];have o:((vtxt .inf).toList==[105,110,102])=true:=by show (infS.toList==_)=_;rw[Ce];rfl
  generalize vtxt .inf=a at *;generalize vtxt u=b at *;replace c:=qh c;clear i g lv lu j d;unfold ring2 at c ⊢;unfold infS
  go_enter func147,ntmps147
  go_wp2;go_ret2;exact⟨rfl,c.o⟩
 |fin x =>
  have o:((vtxt (.fin x)).toList==[105,110,102])=false:=GC i;cases u with
  |low=>exact absurd rfl lu
  |inf =>
   have d:limV (addV (.fin x) .inf)=(infS,0):=rfl;rw[d];have p:((vtxt .inf).toList==[105,110,102])=true:=by show (infS.toList==_)=_;rw[Ce];rfl
   generalize vtxt .inf=b at *;generalize vtxt (.fin x)=a at *;replace c:=qh c;clear i g lv lu j d;unfold ring2 at c ⊢;unfold infS
   go_enter func147,ntmps147
   go_wp2;go_ret2;exact⟨rfl,c.o⟩
  |fin y =>
   have p:((vtxt (.fin y)).toList==[105,110,102])=false:=GC g;have l:=Df i;have m:=Df g;have c1:=λs (h:Below w.heap.size w s)=>Oi (txt x) (txt y) s (by omega) (by omega) (j.below h nlr);have d:Ba (txt x) (txt y)=limV (addV (.fin x) (.fin y)):=by unfold Ba;rw[Bj i,Bj g];rfl
   rw[d]at c1;change Calls _ _ #[_,.string (txt x),.string (txt y)] _ _;change ((txt x).toList==_)=_ at o;change ((txt y).toList==_)=_ at p;generalize limV (addV (.fin x) (.fin y))=lr at *;obtain⟨ls,z⟩:=lr;generalize txt x=a at *;generalize txt y=b at *;replace c1:=qh c1;replace c:=qh c;clear i g lv lu j d l m;unfold ring2 at c ⊢
   go_enter func147,ntmps147
   go_wp2_with fail
   refine nxb (c1.o _ c.o) c λA k=>?_;go_wp2;go_ret2;exact⟨rfl,k.o⟩
def Uh(v:V)(w:World)(i:fitV v)(h:Tab w):Calls prog 145 #[.string (vtxt v)] w (PairEnd (limV (AA 1 v)) w):=by
 have c1:=GE v (.fin 0) w i EV h;have g:AA 1 v=if 0<=cmpV v (.fin 0) then .fin 0 else .low:=rfl
 have d:limV (AA 1 v)=(if 0<=cmpV v (.fin 0) then ⟨#[48]⟩ else lowS,0):=by
  rw[g];split
  ·exact(CX EV).trans (by rw[Du])
  rfl
 rw[d];change Calls _ _ #[_,.string (txt 0)] _ _ at c1;rw[Du]at c1;have k:=EN v (.fin 0);generalize cmpV v (.fin 0)=z at *;replace c1:=qh c1;clear h g d;generalize vtxt v=a at *;clear i;unfold lowS
 rcases k with rfl|rfl|rfl
 ·change Calls _ _ _ _ (PairEnd (⟨#[45,105,110,102]⟩,0) w)
  go_enter func145,ntmps145
  go_wp2_with fail
  refine nxa c1.o λj c=>?_;go_wp2;go_ret2;exact⟨rfl,c.o⟩
 ·change Calls _ _ _ _ (PairEnd (⟨#[48]⟩,0) w)
  go_enter func145,ntmps145
  go_wp2_with fail
  refine nxa c1.o λj c=>?_;go_wp2;go_ret2;exact⟨rfl,c.o⟩
 change Calls _ _ _ _ (PairEnd (⟨#[48]⟩,0) w)
 go_enter func145,ntmps145
 go_wp2_with fail
 refine nxa c1.o λj c=>?_;go_wp2;go_ret2;exact⟨rfl,c.o⟩
def TD(v:V)(w:World)(i:fitV v)(h:Tab w):Calls prog 152 #[.string (vtxt v)] w (PairEnd (limV (AA 3 v)) w):=by
 have c1:=GE v (.fin 1) w i ET h;have g:AA 3 v=if cmpV v (.fin 1)<=0 then .fin 1 else .inf:=rfl
 have d:limV (AA 3 v)=(if cmpV v (.fin 1)<=0 then ⟨#[49]⟩ else infS,0):=by
  rw[g];split
  ·exact(CX ET).trans (by rw[Eh])
  rfl
 rw[d];change Calls _ _ #[_,.string (txt 1)] _ _ at c1;rw[Eh]at c1;have k:=EN v (.fin 1);generalize cmpV v (.fin 1)=z at *;replace c1:=qh c1;clear h g d;generalize vtxt v=a at *;clear i;unfold infS
 rcases k with rfl|rfl|rfl
 ·change Calls _ _ _ _ (PairEnd (⟨#[49]⟩,0) w)
  go_enter func152,ntmps152
  go_wp2_with fail
  refine nxa c1.o λj c=>?_;go_wp2;go_ret2;exact⟨rfl,c.o⟩
 ·change Calls _ _ _ _ (PairEnd (⟨#[49]⟩,0) w)
  go_enter func152,ntmps152
  go_wp2_with fail
  refine nxa c1.o λj c=>?_;go_wp2;go_ret2;exact⟨rfl,c.o⟩
 change Calls _ _ _ _ (PairEnd (⟨#[105,110,102]⟩,0) w)
 go_enter func152,ntmps152
 go_wp2_with fail
 refine nxa c1.o λj c=>?_;go_wp2;go_ret2;exact⟨rfl,c.o⟩
def MH{x:Rat}(m:fitQ x)(k:0<=x)(l:x<1):fitQ (1-x):=by
 have c:=EU.1 m;rw[EU,Rat.sub_def'];obtain⟨g,h⟩:=Ns (n:=(1:Rat).num*x.den-x.num*(1:Rat).den) (d:=(1:Rat).den*x.den) (Nat.mul_ne_zero (by decide) x.den_nz);have p:0<=x.num:=Rat.num_nonneg.2 k;have o:x.num<x.den:=by
  have:=(Rat.lt_iff x 1).1 l
  simpa using this
 have i:((1:Rat).num*x.den-x.num*(1:Rat).den).natAbs<=x.den:=by
  rw[Rat.one_num,Rat.one_den];omega
 have j:(1:Rat).den*x.den=x.den:=by rw[Rat.one_den,Nat.one_mul]
 exact⟨Nat.lt_of_le_of_lt (Nat.le_trans g i) c.2,Nat.lt_of_le_of_lt (Nat.le_trans h (Nat.le_of_eq j)) c.2⟩
def XB(v:V)(w:World)(i:fitV v)(d:okV 2 v)(j:Tab w):Calls prog 149 #[.string (vtxt v)] w (PairEnd (limV (AA 2 v)) w):=by
 have c1:=GE v (.fin 1) w i ET j;change Calls _ _ #[_,.string (txt 1)] _ _ at c1;rw[Eh]at c1
 rcases AF d (by decide) with rfl|⟨x,rfl,E⟩
 ·have g:limV (AA 2 .inf)=(infS,0):=rfl;have C:cmpV .inf (.fin 1)=1:=rfl;rw[g];rw[C]at c1;have k:=qh c1;clear c1 j i d g C;generalize vtxt .inf=a at *;unfold infS
  go_enter func149,ntmps149
  go_wp2_with fail
  refine nxa k.o λD c=>?_;go_wp2;go_ret2;exact⟨rfl,c.o⟩
 have o:AA 2 (.fin x)=if 0<=cmpQ x 1 then .inf else .fin (1 / (1-x)):=rfl
 have s:cmpV (.fin x) (.fin 1)=cmpQ x 1:=rfl;rw[s]at c1
 rcases BJ x 1 with⟨h,e⟩|h
 ·have hf:=MH i E h;have hd:1-x≠0:=Rat.ne_of_gt<|(Rat.lt_iff_sub_pos x 1).1 h;have g:limV (AA 2 (.fin x))=limR (1 / (1-x)):=by rw[o,e];rfl
  have F:=Df i;have G:=Df hf;have c2:=λm (h:Below w.heap.size w m)=>VP ⟨#[49]⟩ (txt x) m (by decide) (by omega) (j.below h nlr);have c3:=λm (h:Below w.heap.size w m)=>VO ⟨#[49]⟩ (txt (1-x)) m (by decide) (by omega) (j.below h nlr);have A:BZ ⟨#[49]⟩ (txt x)=(txt (1-x),0):=by unfold BZ;rw[Fl,Bj i];exact CX hf
  have B:Bp ⟨#[49]⟩ (txt (1-x))=limR (1 / (1-x)):=by unfold Bp;rw[Fl,Bj hf];exact ifn hd
  rw[A]at c2;rw[B]at c3;rw[e]at c1;rw[g];change Calls _ _ #[.string (txt x),_] _ _ at c1;change Calls _ _ #[.string (txt x)] _ _;generalize limR (1 / (1-x))=lr at *;obtain⟨ls,H⟩:=lr;generalize txt (1-x)=b at *;generalize txt x=a at *;have k:=qh c1;clear c1;replace c2:=qh c2;replace c3:=qh c3;clear j i d o s h e hf hd g F G A B
  go_enter func149,ntmps149
  go_wp2_with fail
  refine nxa k.o λD c=>?_
  go_wp2_with fail
  refine nxb (c2.o _ c.o) c λI l=>?_
  go_wp2_with fail
  refine nxb (c3.o _ l.o) l λJ p=>?_;go_wp2;go_ret2;exact⟨rfl,p.o⟩
 have u:0<=cmpQ x 1:=by rcases h with⟨_,e⟩|⟨_,e⟩<;>rw[e]<;>decide
 have g:limV (AA 2 (.fin x))=(infS,0):=by rw[o,ifp u];rfl
 rw[g];generalize cmpQ x 1=z at *;generalize vtxt (.fin x)=a at *;have k:=qh c1;clear c1 j i d o s h g;unfold infS
 go_enter func149,ntmps149
 go_wp2_with fail
 refine nxa k.o λD c=>?_;go_wp2;go_ret2;exact⟨rfl,c.o⟩
variable{b o z:ByteArray}{v:V}{c w:World}{J N S W f:FuncId}
def Yy(c:k<1\/3<k)(a:ByteArray):vprs k a=none:=by
 cases h:vprs k a with
 |none=>rfl
 |some v=>have:=Da (Dh.1 h).2;omega
def GD(c:k<1\/3<k)(a:ByteArray):Ak k a=false:=by unfold Ak;rw[Yy c];rfl
def YO(h:wtV k v):k=1\/k=2\/k=3:=by cases v<;>simp only[wtV]at h<;>omega
def YC(c:k<1\/3<k)(a:ByteArray):Am k a=false:=by
 unfold Am;cases rdV a with
 |none=>rfl
 |some v=>show decide (wtV k v)=false;rw[decide_eq_false_iff_not];intro h;have:=YO h;omega
def Ep(c:k<1\/3<k):Au k=false:=by unfold Au;rw[Bool.and_eq_false_iff];simp;omega
def CF(k:Int):k=1\/k=2\/k=3\/(k<1\/3<k):=by omega
def BM(h:Ak k a=true):∃v,vprs k a=some v/\rdV a=some v/\okV k v/\a=vtxt v/\fitV v:=by
 unfold Ak at h;obtain⟨v,d⟩:=Option.isSome_iff_exists.1 h;obtain⟨c,g⟩:=Dh.1 d;exact⟨v,d,c,g,Fp c⟩
def EH(h:Ak k a=false):vprs k a=none:=by
 unfold Ak at h;cases c:vprs k a with
 |none=>rfl
 |some v=>rw[c]at h;simp at h
def VC(h:Ak k a=false):Ar k a b=(⟨#[]⟩,1):=by unfold Ar;rw[EH h];rfl
def VD(h:Ak k b=false):Ar k a b=(⟨#[]⟩,1):=by unfold Ar;rw[EH h];cases vprs k a<;>rfl
def Ld(h:Ak k a=false):Ae k a b=(⟨#[]⟩,1):=by unfold Ae;rw[EH h];rfl
def PK(h:Ak k b=false):Ae k a b=(⟨#[]⟩,1):=by unfold Ae;rw[EH h];cases vprs k a<;>rfl
def Xk(h:Ak k a=false):AN k a=(⟨#[]⟩,1):=by unfold AN;rw[EH h];rfl
def Rq(h:Ak k a=false):Bm k a b=0:=by unfold Bm;rw[EH h]
theorem Rr(h:Ak k b=false):Bm k a b=0:=by unfold Bm;rw[EH h];cases vprs k a<;>rfl
theorem QC:Aj 1=⟨#[105,110,102]⟩:=rfl
theorem Fx:Aj 2=⟨#[48]⟩:=Du
theorem Fy:Aj 3=⟨#[48]⟩:=Du
def QD(c:k<1\/3<k):Aj k=⟨#[]⟩:=by unfold Aj;rw[Ep c];rfl
theorem Gc:oneF 1=⟨#[48]⟩:=Du
theorem Gd:oneF 2=⟨#[49]⟩:=Eh
theorem Ge:oneF 3=⟨#[49]⟩:=Eh
def NW(c:k<1\/3<k):oneF k=⟨#[]⟩:=by unfold oneF;rw[Ep c];rfl
def PY(h:fitV v):((vtxt v).toList==[105,110,102])=decide (v=.inf):=by
 cases v with
 |inf=>show (infS.toList==_)=_;rw[Ce];rfl
 |low=>show (lowS.toList==_)=_;rw[CY];rfl
 |fin q=>show ((txt q).toList==_)=_;rw[GC h];rfl
def PZ(h:fitV v):((vtxt v).toList==[45,105,110,102])=decide (v=.low):=by
 cases v with
 |inf=>show (infS.toList==_)=_;rw[Ce];rfl
 |low=>show (lowS.toList==_)=_;rw[CY];rfl
 |fin q=>show ((txt q).toList==_)=_;rw[Lg h];rfl
def Qa(h:fitV v):((vtxt v).toList==[48])=decide (v=.fin 0):=by
 cases v with
 |inf=>show (infS.toList==_)=_;rw[Ce];rfl
 |low=>show (lowS.toList==_)=_;rw[CY];rfl
 |fin q =>
  show ((txt q).toList==_)=_;by_cases c:q=0
  ·subst c;rw[Du,Lib.toList_data];simp
  rw[decide_eq_false (λe=>c (by injection e))];exact BP (l:=[48]) (λe=>c (Yf h EV (e.trans Du.symm)))
def Ng:limV (.fin 0)=(⟨#[48]⟩,0):=(CX EV).trans (by rw[Du])
def nx1{P:Program}{c:Array Value}{R:Ending}{Q:Ending->World->Prop}(h:Calls P f c w (λe w'=>e=R/\Below w.heap.size w w'))(k:∀w',Hd (Below w.heap.size w w')->Q R w'):Calls P f c w Q :=
 h.mono λe w' d=>by rw[d.1];exact k w' d.2
def nx2{P:Program}{d:Array Value}{R:Ending}{Q:Ending->World->Prop}(h:Calls P f d w (λe w'=>e=R/\Below w.heap.size w w'))(B:Hd (Below c.heap.size c w))(k:∀w',Hd (Below c.heap.size c w')->Q R w'):Calls P f d w Q :=
 h.mono λe w' g=>by rw[g.1];exact k w' (Below.trans B (g.2.mono (Below.size B)))
def FP(h:Au k=false):k<1\/3<k:=by
 rcases CF k with rfl|rfl|rfl|c
 ·cases h
 ·cases h
 ·cases h
 exact c
def Ik(h:Au k=false):Fs k=ring0:=by
 have:=FP h;unfold Fs;rw[ifn (by omega),ifn (by omega),ifn (by omega)]
def Bq(z o:ByteArray)(l:Bool)(P J S N W:FuncId):Array Value:=#[.string z,.string o,.bool l,fv P,fv J,fv S,fv N,fv W]
def EnF(f:FuncId):Prop:=∀args w,(callFunc f args).run prog w=.ok (.enter f args) w
def nmF(k:Int)(a:ByteArray):Bool:=if k=1 then (prs a).isSome else natB a
structure RgK(k:Int)(P J S N W:FuncId):Prop where
 eP:EnF P
 eJ:EnF J
 eS:EnF S
 eN:EnF N
 eW:EnF W
 cN:∀a w,a.size<=9223372036854775807->Tab w->Calls prog N #[.string a] w (BoolE (nmF k a) w)
 cW:∀a w,a.size<=9223372036854775807->Tab w->Calls prog W #[.string a] w (BoolE (Am k a) w)
 cP:∀a b w,Ak k a=true->Ak k b=true->Tab w->Calls prog P #[.agg (Bq (Aj k) (oneF k) (decide (k=1)) P J S N W),.string a,.string b] w (PairEnd (Ar k a b) w)
 cJ:∀a b w,a.size<=9223372036854775807->b.size<=9223372036854775807->Tab w->Calls prog J #[.string a,.string b] w (PairEnd (if k=1 then Ba a b else BQ a b) w)
 cS:∀a w,Ak k a=true->Tab w->Calls prog S #[.string a] w (PairEnd (AN k a) w)
def Kg{u:V}(c:vprs k a=some v)(d:vprs k b=some u):Ar k a b=limV (Av k v u):=by unfold Ar;rw[c,d]
theorem Il(h:Au k=true):∃P J S N W,Fs k=Bq (Aj k) (oneF k) (decide (k=1)) P J S N W/\RgK k P J S N W:=by
 rcases CF k with rfl|rfl|rfl|B
 ·refine⟨143,144,145,146,146,by rw[Gc];rfl,λc w=>by kernel_rfl,λc w=>by kernel_rfl,λc w=>by kernel_rfl,λc w=>by kernel_rfl,λc w=>by kernel_rfl,
   λa w i d=>Oq a w i d,λa w i d=>by rw[YB];exact Oq a w i d,λa b w l s d=>?_,λa b w i hb d=>Oi a b w i hb d,λa w l d=>?_⟩
  ·obtain⟨v,m,_,_,j,g⟩:=BM l;obtain⟨u,z,_,_,o,p⟩:=BM s;rw[Kg m z,j,o,Gc];exact RI v u w g p d
  obtain⟨v,m,_,_,j,g⟩:=BM l;rw[show AN 1 a=limV (AA 1 v) by unfold AN;rw[m],j];exact Uh v w g d
 ·refine⟨147,148,149,150,151,by rw[Gd,Fx];rfl,λc w=>by kernel_rfl,λc w=>by kernel_rfl,λc w=>by kernel_rfl,λc w=>by kernel_rfl,λc w=>by kernel_rfl,
   λa w i d=>NB a w i d,λa w i d=>by rw[Qo (by omega)];exact Oe a w i d,λa b w l s d=>?_,λa b w i hb d=>Om a b w i hb d,λa w l d=>?_⟩
  ·obtain⟨v,m,_,A,j,g⟩:=BM l;obtain⟨u,z,_,C,o,p⟩:=BM s;rw[Kg m z,j,o,Gd,Fx];exact XC v u w g p (AB A (by decide)) (AB C (by decide)) d
  obtain⟨v,m,_,A,j,g⟩:=BM l;rw[show AN 2 a=limV (AA 2 v) by unfold AN;rw[m],j];exact XB v w g A d
 ·refine⟨143,148,152,150,151,by rw[Ge,Fy];rfl,λc w=>by kernel_rfl,λc w=>by kernel_rfl,λc w=>by kernel_rfl,λc w=>by kernel_rfl,λc w=>by kernel_rfl,
   λa w i d=>NB a w i d,λa w i d=>by rw[Qo (by omega)];exact Oe a w i d,λa b w l s d=>?_,λa b w i hb d=>Om a b w i hb d,λa w l d=>?_⟩
  ·obtain⟨v,m,_,_,j,g⟩:=BM l;obtain⟨u,z,_,_,o,p⟩:=BM s;rw[Kg m z,j,o,Ge,Fy];exact RJ v u w g p d
  obtain⟨v,m,_,_,j,g⟩:=BM l;rw[show AN 3 a=limV (AA 3 v) by unfold AN;rw[m],j];exact TD v w g d
 rw[Ep B]at h;cases h
def Yp(i:Au k=true)(a:ByteArray):Ak k a=((a.toList==[105,110,102])||((a.toList==[45,105,110,102])&&decide (k=1))||nmF k a):=by
 have m:k=1\/k=2\/k=3:=by
  rcases CF k with h|h|h|h
  ·exact .inl h
  ·exact .inr (.inl h)
  ·exact .inr (.inr h)
  rw[Ep h]at i;cases i
 by_cases d:a=infS
 ·rw[d,Qd m,Ce];rfl
 have j:(a.toList==[105,110,102])=false:=BP (l:=[105,110,102]) d;rw[j];unfold nmF;by_cases c:k=1
 ·subst c;by_cases g:a=lowS
  ·rw[g,CY,Qe];rfl
  rw[BP (l:=[45,105,110,102]) g,Qb d g];rfl
 rw[Qc (by omega) d];simp[c]
theorem CK{w1:World}(h:Below w.heap.size w w1)(B:Hd (Below w1.heap.size w1 c)):Below w.heap.size w c:=h.trans<|Below.mono B h.size
def OD{P:FuncId}(s:Au k=true)(i:RgK k P J S N W)(a:ByteArray)(w:World)(p:a.size<=9223372036854775807)(u:Tab w):Calls prog 57 #[.agg (Bq z o (decide (k=1)) P J S N W),.string a] w (BoolE (Ak k a) w):=by
 have c:=qh<|show Below w.heap.size w (w.alloc (.cells (Bq z o (decide (k=1)) P J S N W) 91)) from blr.alloc nlr _;have C:=qh λA (h:Below w.heap.size w A)=>i.cN a A p (u.below h nlr);have d:=qh<|Yp s a;have j:=i.eN;unfold EnF at j;clear i p u s;unfold Bq at c ⊢;generalize decide (k=1)=l,nmF k a=nm,Ak k a=va at *
 go_enter func57,ntmps57
 cases g:(a.toList==[105,110,102])
 rotate_left
 ·go_wp2;go_ret;exact⟨by rw[d.o,g];rfl,c.o⟩
 cases m:(a.toList==[45,105,110,102])<;>cases l
 rotate_right
 ·go_wp2;go_ret;exact⟨by rw[d.o,g,m];rfl,c.o⟩
 all_goals
  rw[g,m]at d
  go_wp2_with fail
  refine nx1 (C.o _ c.o) λD B=>?_;go_wp2;go_ret;exact⟨by rw[d.o];rfl,CK c.o B⟩
def Wr{wk:World}{l:Bool}{P:FuncId}(h:Below (w.alloc (.cells (Bq z o l P J S N W) 91)).heap.size (w.alloc (.cells (Bq z o l P J S N W) 91)) wk):
  wk.cell? (Ad w.heap.size 0)=some (.string z)/\wk.cell? (Ad w.heap.size 1)=some (.string o)/\wk.cell? (Ad w.heap.size 2)=some (.bool l)/\wk.cell? (Ad w.heap.size 3)=some (fv P)/\wk.cell? (Ad w.heap.size 4)=some (fv J)/\wk.cell? (Ad w.heap.size 5)=some (fv S)/\wk.cell? (Ad w.heap.size 6)=some (fv N)/\wk.cell? (Ad w.heap.size 7)=some (fv W) :=
 ⟨(cell_kept h 0).trans rfl,(cell_kept h 1).trans rfl,(cell_kept h 2).trans rfl,(cell_kept h 3).trans rfl,(cell_kept h 4).trans rfl,(cell_kept h 5).trans rfl,(cell_kept h 6).trans rfl,(cell_kept h 7).trans rfl⟩
def Io(k:Int)(a:ByteArray)(w:World)(s:a.size<=9223372036854775807)(u:Tab w):Calls prog 68 #[.int .i64 k,.string a] w (BoolE (Am k a) w):=by
 have d:=qh<|Hz k w;cases g:Au k
 ·rw[YC (FP g)];rw[Ik g,g]at d;unfold OfEnd ring0 at d
  go_enter func68,ntmps68
  go_wp2_with fail
  refine nx1 d.o λD c=>?_;go_wp2;go_ret;exact⟨rfl,c.o.alloc c.o.size _⟩
 obtain⟨P,J,S,N,W,p,j⟩:=Il g;rw[p,g]at d;have C:=qh λA (h:Below w.heap.size w A)=>j.cW a A s (u.below h nlr);have m:=j.eW;unfold EnF at m;clear p g j s u;generalize decide (k=1)=l,Aj k=z,oneF k=o,Am k a=va at *;unfold OfEnd Bq at d
 go_enter func68,ntmps68
 go_wp2_with fail
 refine nx1 d.o λD c=>?_;have i:=qh<|c.o.alloc c.o.size (.cells (Bq z o l P J S N W) 91);unfold Bq at i;clear c
 go_wp2_with fail
 refine nx2 (C.o _ i.o) i λE B=>?_;go_wp2;go_ret;exact⟨rfl,B.o⟩
def Xa(k:Int)(w:World):Calls prog 30 #[.int .i64 k] w (StrE (Aj k) w):=by
 have d:=qh<|Hz k w;cases g:Au k
 ·rw[QD (FP g)];rw[Ik g,g]at d;unfold OfEnd ring0 at d
  go_enter func30,ntmps30
  go_wp2_with fail
  refine nx1 d.o λm c=>?_;go_wp2;go_ret;exact⟨rfl,c.o.alloc c.o.size _⟩
 obtain⟨P,J,S,N,W,i,j⟩:=Il g;rw[i,g]at d;clear i g j;generalize decide (k=1)=l,Aj k=z,oneF k=o at *;unfold OfEnd Bq at d
 go_enter func30,ntmps30
 go_wp2_with fail
 refine nx1 d.o λm c=>?_;have h:=qh<|c.o.alloc c.o.size (.cells (Bq z o l P J S N W) 91);unfold Bq at h;clear c;go_wp2;go_ret;exact⟨rfl,h.o⟩
def Gq(k:Int)(w:World):Calls prog 60 #[.int .i64 k] w (StrE (oneF k) w):=by
 have d:=qh<|Hz k w;cases g:Au k
 ·rw[NW (FP g)];rw[Ik g,g]at d;unfold OfEnd ring0 at d
  go_enter func60,ntmps60
  go_wp2_with fail
  refine nx1 d.o λm c=>?_;go_wp2;go_ret;exact⟨rfl,c.o.alloc c.o.size _⟩
 obtain⟨P,J,S,N,W,i,j⟩:=Il g;rw[i,g]at d;clear i g j;generalize decide (k=1)=l,Aj k=z,oneF k=o at *;unfold OfEnd Bq at d
 go_enter func60,ntmps60
 go_wp2_with fail
 refine nx1 d.o λm c=>?_;have h:=qh<|c.o.alloc c.o.size (.cells (Bq z o l P J S N W) 91);unfold Bq at h;clear c;go_wp2;go_ret;exact⟨rfl,h.o⟩
def index3z(w:World)(z:ByteArray):(Instr.index 94 (.agg #[.string z,.string ⟨#[105,110,102]⟩,.string ⟨#[45,105,110,102]⟩]) (.int .i64 0)).run prog w=.ok (.string z) w/\
  (Instr.index 94 (.agg #[.string z,.string ⟨#[105,110,102]⟩,.string ⟨#[45,105,110,102]⟩]) (.int .i64 1)).run prog w=.ok (.string ⟨#[105,110,102]⟩) w/\
  (Instr.index 94 (.agg #[.string z,.string ⟨#[105,110,102]⟩,.string ⟨#[45,105,110,102]⟩]) (.int .i64 2)).run prog w=.ok (.string ⟨#[45,105,110,102]⟩) w:=⟨by kernel_rfl,by kernel_rfl,by kernel_rfl⟩
def IH(h:Ak k a=true):∃v,vprs k a=some v/\okV k v/\a=vtxt v/\fitV v/\(a.toList==[105,110,102])=decide (v=.inf)/\(a.toList==[45,105,110,102])=decide (v=.low)/\(a.toList==[48])=decide (v=.fin 0)/\(a.toList==(Aj k).toList)=decide (v=zeroV k):=by
 obtain⟨v,l,_,j,c,fv⟩:=BM h;have g:(a.toList==[105,110,102])=decide (v=.inf):=by rw[c];exact PY fv
 have d:(a.toList==[48])=decide (v=.fin 0):=by rw[c];exact Qa fv
 refine⟨v,l,j,c,fv,g,by rw[c];exact PZ fv,d,?_⟩
 rcases CF k with rfl|rfl|rfl|i
 ·rw[show (Aj 1).toList=[105,110,102] from Ce,show zeroV 1=.inf from rfl];exact g
 ·rw[Fx,show (⟨#[48]⟩:ByteArray).toList=[48] by rw[Lib.toList_data],show zeroV 2=.fin 0 from rfl];exact d
 ·rw[Fy,show (⟨#[48]⟩:ByteArray).toList=[48] by rw[Lib.toList_data],show zeroV 3=.fin 0 from rfl];exact d
 rw[GD i]at h;cases h
def PI(g:Ak k a=true)(C:Ak k b=true):Ae k a b=bif (a.toList==(Aj k).toList)||(b.toList==(Aj k).toList) then (Aj k,0) else bif (a.toList==[105,110,102])||(b.toList==[105,110,102]) then (⟨#[105,110,102]⟩,0) else
  bif (a.toList==[45,105,110,102])||(b.toList==[45,105,110,102]) then (⟨#[45,105,110,102]⟩,0) else (if k=1 then Ba a b else BQ a b):=by
 obtain⟨v,G,I,i,fv,o,p,_,s⟩:=IH g;obtain⟨u,F,H,j,l,z,A,_,B⟩:=IH C;rw[o,p,s,z,A,B];have E:Ae k a b=limV (Ai k v u):=by unfold Ae;rw[G,F]
 have m:limV (zeroV k)=(Aj k,0):=by
  rcases CF k with rfl|rfl|rfl|D
  ·rfl
  ·rw[Fx];exact Ng
  ·rw[Fy];exact Ng
  rw[GD D]at g;cases g
 rw[E];unfold Ai;by_cases d:v=zeroV k
 ·rw[ifp (.inl d),m];simp[d]
 by_cases c:u=zeroV k
 ·rw[ifp (.inr c),m];simp[c]
 rw[ifn (by rintro(h|h);exact d h;exact c h)]
 simp only[d,c,decide_false,Bool.or_false,cond_false];cases v with
 |inf=>rfl
 |low=>cases u<;>rfl
 |fin x =>
  cases u with
  |inf=>rfl
  |low=>rfl
  |fin y =>
   simp only[show (V.fin x=V.inf)=False by simp,show (V.fin y=V.inf)=False by simp,show (V.fin x=V.low)=False by simp,show (V.fin y=V.low)=False by simp,decide_false,Bool.or_false,cond_false]
   split
   ·rw[i,j];show limR (x+y)=Ba (txt x) (txt y);unfold Ba;rw[Bj fv,Bj l]
   rw[i,j];show limR (x*y)=BQ (txt x) (txt y);unfold BQ;rw[Bj fv,Bj l]
theorem WZ(k:Int)(a b:ByteArray)(w:World)(Z:a.size<=9223372036854775807)(hb:b.size<=9223372036854775807)(Q:Tab w):Calls prog 23 #[.int .i64 k,.string a,.string b] w (PairEnd (Ae k a b) w):=by
 have A:=qh<|Hz k w;cases m:Au k
 ·rw[Ld (GD (FP m) a)];rw[Ik m,m]at A;unfold OfEnd ring0 at A
  go_enter func23,ntmps23
  go_wp2_with fail
  refine nx1 A.o λR u=>?_;go_wp2;go_ret2;exact⟨rfl,u.o.alloc u.o.size _⟩
 obtain⟨P,J,S,N,W,hV,K⟩:=Il m;rw[hV,m]at A;have E:=qh λc (h:Below w.heap.size w c)=>OD (z:=Aj k) (o:=oneF k) m K a c Z (Q.below h nlr);have F:=qh λc (h:Below w.heap.size w c)=>OD (z:=Aj k) (o:=oneF k) m K b c hb (Q.below h nlr);have C:=qh λh=>Ld (k:=k) (a:=a) (b:=b) h;have D:=qh λh=>PK (k:=k) (a:=a) (b:=b) h;have HC:=qh λH I=>PI (k:=k) (a:=a) (b:=b) H I;have HJ:=qh λc (h:Below w.heap.size w c)=>K.cJ a b c Z hb (Q.below h nlr);have X:=qh λc=>index3z c (Aj k);generalize (if k=1 then Ba a b else BQ a b)=q at *
 obtain⟨qa,qb⟩:=q;have a1:=K.eJ;unfold EnF at a1;clear hV m K Z hb Q;generalize hl:decide (k=1)=l,Aj k=z,oneF k=o,Ae k a b=r at *;replace hl:=qh hl;unfold Bq at E F;unfold OfEnd Bq at A
 go_enter func23,ntmps23
 go_wp2_with fail
 refine nx1 A.o λR u=>?_;have d:=qh<|u.o.alloc u.o.size (.cells (Bq z o l P J S N W) 91);obtain⟨T,g⟩:=exq<|R.alloc (.cells (Bq z o l P J S N W) 91);obtain⟨rb,s⟩:=exq<|R.heap.size;have U:=qh λwk (h:Below T.heap.size T wk)=>Wr (w:=R) (wk:=wk) (z:=z) (o:=o) (l:=l) (P:=P) (J:=J) (S:=S) (N:=N) (W:=W) (by rw[<-g];exact h);rw[<-s]at U;rw[<-g]at d;unfold Bq at g
 go_wp2_with fail
 rw[<-g,<-s];clear g s u;refine nx1 (E.o _ d.o) λw2 L=>?_;obtain⟨q0,q1,q2,q3,q4,q5,q6,q7⟩:=U.o w2 L.o;cases H:Ak k a
 ·go_wp2;go_ret2;exact⟨by rw[C.o H];rfl,CK d.o L⟩
 go_wp2_with fail
 clear q0 q1 q2 q3 q4 q5 q6 q7;refine nx2 (F.o _ (CK d.o L)) L λw3 i=>?_;obtain⟨q0,q1,q2,q3,q4,q5,q6,q7⟩:=U.o w3 i.o;cases I:Ak k b
 ·go_wp2;go_ret2;exact⟨by rw[D.o I];rfl,CK d.o i⟩
 have H1:=qh H;clear H;have H2:=qh I;clear I;have j:=qh<|HC.o H1.o H2.o;clear HC C D H1 H2;have x0:=λc=>(X.o c).1;have x1:=λc=>(X.o c).2.1;have x2:=λc=>(X.o c).2.2
 go_wp2_with fail
 cases p:(a.toList==z.toList)
 rotate_left
 ·refine wp_loop_rounds 4 ?_;rw[rounds_succ];go_wp2;go_ret2;exact⟨by rw[j.o,p];rfl,CK d.o i⟩
 cases B:(b.toList==z.toList)
 rotate_left
 ·refine wp_loop_rounds 4 ?_;rw[rounds_succ];go_wp2;go_ret2;exact⟨by rw[j.o,p,B];rfl,CK d.o i⟩
 cases G:(a.toList==[105,110,102])
 rotate_left
 ·refine wp_loop_rounds 4 ?_;rw[rounds_succ];go_wp2_with fail;rw[rounds_succ];go_wp2;go_ret2;exact⟨by rw[j.o,p,B,G];rfl,CK d.o i⟩
 cases O:(b.toList==[105,110,102])
 rotate_left
 ·refine wp_loop_rounds 4 ?_;rw[rounds_succ];go_wp2_with fail;rw[rounds_succ];go_wp2;go_ret2;exact⟨by rw[j.o,p,B,G,O];rfl,CK d.o i⟩
 cases Y:(a.toList==[45,105,110,102])
 rotate_left
 ·refine wp_loop_rounds 4 ?_;rw[rounds_succ];go_wp2_with fail;rw[rounds_succ];go_wp2_with fail;rw[rounds_succ];go_wp2;go_ret2;exact⟨by rw[j.o,p,B,G,O,Y];rfl,CK d.o i⟩
 cases e6:(b.toList==[45,105,110,102])
 rotate_left
 ·refine wp_loop_rounds 4 ?_;rw[rounds_succ];go_wp2_with fail;rw[rounds_succ];go_wp2_with fail;rw[rounds_succ];go_wp2;go_ret2;exact⟨by rw[j.o,p,B,G,O,Y,e6];rfl,CK d.o i⟩
 rw[p,B,G,O,Y,e6]at j;refine wp_loop_rounds 4 ?_;rw[rounds_succ];go_wp2_with fail;rw[rounds_succ];go_wp2_with fail;rw[rounds_succ];go_wp2_with fail;rw[rounds_succ];go_wp2_with fail;refine nx2 (HJ.o _ (CK d.o i)) i λw4 B4=>?_;go_wp2;go_ret2;exact⟨by rw[j.o];rfl,CK d.o B4⟩

def Hk(v:V):(limV v).1.size<=802:=by
 cases v with
 |inf=>show 3<=802;omega
 |low=>show 4<=802;omega
 |fin q=>exact Nb q
def IU:argS.1.size<=802:=by show 0<=802;omega
def VE(k:Int)(a b:ByteArray):(Ar k a b).1.size<=802:=by unfold Ar;split<;>first|exact Hk _|exact IU
def XL(k:Int)(a b:ByteArray):(Ae k a b).1.size<=802:=by unfold Ae;split<;>first|exact Hk _|exact IU
def Xl(k:Int)(a:ByteArray):(AN k a).1.size<=802:=by unfold AN;split<;>first|exact Hk _|exact IU
def QE(k:Int):(Aj k).size<=100000:=by
 rcases CF k with rfl|rfl|rfl|c
 ·rw[QC];decide
 ·rw[Fx];decide
 ·rw[Fy];decide
 rw[QD c];decide
def Vf(k:Int):(oneF k).size<=100000:=by
 rcases CF k with rfl|rfl|rfl|c
 ·rw[Gc];decide
 ·rw[Gd];decide
 ·rw[Ge];decide
 rw[NW c];decide
end
end Go.Proofs.YtpldocnhbdlgfaaGreatDoor
