/- Parts. -/
import Derived.Test.YteappjogmnogcaaGreatDoorZ06
import Derived.Laws.EntriesVeiled
import Derived.Deep.WholeRow
namespace Go.Proofs.YteappjogmnogcaaGreatDoor
set_option maxRecDepth 100000
set_option linter.all false
set_option maxHeartbeats 16000000
open Go Tryz
section
open Go.RowKit
def Tt(g:FuncId)(p q:Bool)(o m u s:ByteArray)(E:Ending)(l j k:Nat)(w:World)(z:(∃r x y,E=.returned (.agg #[.bool r,.string x,.string y]))\/E=PT)
  (Q:∀args w,(callFunc g args).run prog w=.ok (.enter g args) w) (R:l<w.heap.size) (S:j<w.heap.size) (T:k<w.heap.size)
  (c0:w.cell? (Ad l 0)=some (.func (.func g) #[] #[])) (G:w.cell? (Ad j 0)=some (.bool p)) (H:w.cell? (Ad j 1)=some (.string o)) (I:w.cell? (Ad j 2)=some (.string m))
  (J:w.cell? (Ad k 0)=some (.bool q)) (K:w.cell? (Ad k 1)=some (.string u)) (L:w.cell? (Ad k 2)=some (.string s))
  (d:∀wx,Below w.heap.size w wx->Calls prog g #[nvS p o m,nvS q u s] wx λe w'=>e=E/\Below wx.heap.size wx w') :
  Calls prog 200 #[.pointer (some (Ad l 0)),.pointer (some (Ad j 0)),.pointer (some (Ad k 0))] w λe w'=>e=E/\Below w.heap.size w w':=by
 unfold nvS at d;replace d:=qh d;have c:Below w.heap.size w (w.alloc (.cells #[.bool false,.string ⟨#[]⟩,.string ⟨#[]⟩] 189)):=blr.alloc nlr _;replace c:=qh c
 rcases z with⟨r,x,y,rfl⟩|rfl
 ·go_enter func200,ntmps200
  go_wp2_with fail
  refine(d.o _ c.o).mono ?_;rintro e F⟨rfl,h⟩;have i:=qh h;clear h;obtain⟨B,C,D,N,O,P,A⟩:=res3 i.o;obtain⟨s0,s1,s2⟩:=set3 (a':=.bool r) (b':=.string x) (c':=.string y) B C D
  go_wp2_with fail
  exact bodyPost_ret (Eh rfl _ _ w.heap.size r x y rfl s0 s1 s2) rfl ⟨rfl,(((Ag c.o i.o).setCell nlr _).setCell nlr _).setCell nlr _⟩
 unfold PT at d ⊢
 go_enter func200,ntmps200
 go_wp2_with fail
 refine(d.o _ c.o).mono ?_;rintro e F⟨rfl,h⟩;have i:=qh h;clear h
 go_wp2_with fail
 exact⟨rfl,rfl,Ag c.o i.o⟩
def qE(q:Rat):(∃r x y,(if fitQ q then .returned (nv q) else PT)=Ending.returned (.agg #[.bool r,.string x,.string y]))\/(if fitQ q then .returned (nv q) else PT)=PT:=by
 by_cases h:fitQ q
 ·rw[ifp h];exact .inl ⟨_,_,_,rfl⟩
 rw[ifn h];exact .inr rfl
def okR(F:Rat->Rat->Rat)(a b:ByteArray):ByteArray × Nat:=match prs a,prs b with|some x,some y=>limR (F x y)|_,_=>(str [],1)
def FO(g:FuncId)(F:Rat->Rat->Rat)(a b:ByteArray)(w:World)(R:a.size<=9223372036854775807)(hb:b.size<=9223372036854775807)(S:Tab w)
  (P:∀args w,(callFunc g args).run prog w=.ok (.enter g args) w)
  (z:∀x y,prs a=some x->prs b=some y->∀wx,Below w.heap.size w wx->Calls prog g #[nv x,nv y] wx (QEnd (F x y) wx)) :
  Calls prog 185 #[.string a,.string b,.func (.func g) #[] #[]] w (PairEnd (okR F a b) w):=by
 have U:∀(fn:Fn) (first cap:Array Value) (w:World),(Instr.makeFunc fn first cap).run prog w=.ok (.func fn first cap) w:=λ_ _ _ _=>rfl
 have O:∀wx,Below w.heap.size w wx->Tab wx:=λwx h=>S.below h nlr;have c1:=λwx (h:Below w.heap.size w wx)=>Gm a wx R (O wx h);have c2:=λwx (h:Below w.heap.size w wx)=>Gm b wx hb (O wx h);replace P:=qh P;have u:=qh z;clear z;clear O S R hb;have d:Below w.heap.size w (w.alloc (.cells #[.func (.func g) #[] #[]] 191)):=blr.alloc nlr _;replace d:=qh d;cases B:prs a with
 |none =>
  have D:okR F a b=(str [],1):=by unfold okR;rw[B]
  rw[D];simp only[B,Option.isSome,prsV]at c1;clear D u B;have E:=qh c1;clear c1;generalize (prs b).isSome=o at c2;obtain⟨r,x,y,T⟩:=Ku<|prs b;rw[T]at c2;clear T;have G:=qh c2;clear c2;unfold NoNum nvS at E
  go_enter func185,ntmps185
  go_wp2_with fail
  refine(E.o _ d.o).mono ?_;rintro e A⟨rfl,c⟩;have k:=qh<|(Ag d.o c).alloc (Nat.le_trans d.o.size c.size) (.cells #[.bool false,.string ⟨#[]⟩,.string ⟨#[]⟩] 189);clear c
  go_wp2_with fail
  refine(G.o _ k.o).mono ?_;rintro e C⟨rfl,j⟩;have l:=qh<|Ag k.o j;clear j;go_wp2;go_ret2;exact⟨rfl,l.o.alloc l.o.size _⟩
 |some x =>
  simp only[B,Option.isSome,prsV]at c1;have E:=qh c1;clear c1;cases J:prs b with
  |none =>
   have D:okR F a b=(str [],1):=by unfold okR;rw[B,J]
   rw[D];simp only[J,Option.isSome,prsV]at c2;clear D u B J;have G:=qh c2;clear c2;unfold nv nvS at E;unfold NoNum nvS at G
   go_enter func185,ntmps185
   go_wp2_with fail
   refine(E.o _ d.o).mono ?_;rintro e A⟨rfl,c⟩;have k:=qh<|(Ag d.o c).alloc (Nat.le_trans d.o.size c.size) (.cells #[.bool (negQ x),.string (str (dec x.num.natAbs)),.string (str (dec x.den))] 189);clear c
   go_wp2_with fail
   refine(G.o _ k.o).mono ?_;rintro e C⟨rfl,j⟩;have l:=qh<|Ag k.o j;clear j;go_wp2;go_ret2;exact⟨rfl,l.o.alloc l.o.size _⟩
  |some y =>
   have D:okR F a b=limR (F x y):=by unfold okR;rw[B,J]
   rw[D];simp only[J,Option.isSome,prsV]at c2;have z:=λwx h=>u.o x y B J wx h;clear D u B J;have u:=qh z;clear z;have G:=qh c2;clear c2;unfold nv nvS at E G
   go_enter func185,ntmps185
   go_wp2_with fail
   refine(E.o _ d.o).mono ?_;rintro e A⟨rfl,c⟩;have K:=qh c;have k:=qh<|(Ag d.o c).alloc (Nat.le_trans d.o.size c.size) (.cells #[.bool (negQ x),.string (str (dec x.num.natAbs)),.string (str (dec x.den))] 189);clear c
   go_wp2_with fail
   refine(G.o _ k.o).mono ?_;rintro e C⟨rfl,j⟩;have H:=qh j;have l:=qh<|(Ag k.o j).alloc (Nat.le_trans k.o.size j.size) (.cells #[.bool (negQ y),.string (str (dec y.num.natAbs)),.string (str (dec y.den))] 189);clear j
   go_wp2_with fail
   refine(z0g _ (F x y) _ (λwx h=>?_)).mono ?_
   ·have z0:=K.o.size;have Y:=H.o.size;have Z:=h.size;rw[World.size_alloc]at z0 Y Z;have s0:w.heap.size<(w.alloc (.cells #[.func (.func g) #[] #[]] 191)).heap.size:=by rw[World.size_alloc];omega
    have s1:∀o,A.heap.size<(A.alloc o).heap.size:=λo=>by rw[World.size_alloc];omega
    have s2:∀o,C.heap.size<(C.alloc o).heap.size:=λo=>by rw[World.size_alloc];omega
    have I:wx.cell? (Ad w.heap.size 0)=some (.func (.func g) #[] #[]):=by
     refine(h.cell (p:=(Ad w.heap.size 0)) (by rw[World.size_alloc];show w.heap.size<_;omega)).trans ?_;rw[World.cell?_alloc_past (hn:=by omega)];refine(H.o.cell (p:=(Ad w.heap.size 0)) (by rw[World.size_alloc];show w.heap.size<_;omega)).trans ?_;rw[World.cell?_alloc_past (hn:=by omega)];refine(K.o.cell (p:=(Ad w.heap.size 0)) s0).trans ?_;simp[go_sem]
    have m:∀(i:Nat) (v:Value),(A.alloc (.cells #[.bool (negQ x),.string (str (dec x.num.natAbs)),.string (str (dec x.den))] 189)).cell? (Ad A.heap.size i)=some v->wx.cell? (Ad A.heap.size i)=some v:=by
     intro i v Q;refine(h.cell (p:=(Ad A.heap.size i)) (by rw[World.size_alloc];show A.heap.size<_;omega)).trans ?_;rw[World.cell?_alloc_past (hn:=by omega)];exact(H.o.cell (p:=(Ad A.heap.size i)) (s1 _)).trans Q
    have s:∀(i:Nat) (v:Value),(C.alloc (.cells #[.bool (negQ y),.string (str (dec y.num.natAbs)),.string (str (dec y.den))] 189)).cell? (Ad C.heap.size i)=some v->wx.cell? (Ad C.heap.size i)=some v:=by
     intro i v Q;exact(h.cell (p:=(Ad C.heap.size i)) (s2 _)).trans Q
    exact Tt g _ _ _ _ _ _ _ w.heap.size A.heap.size C.heap.size wx (qE (F x y)) P.o (by omega) (by omega) (by omega) I
     (m 0 _ (by simp[go_sem])) (m 1 _ (by simp[go_sem])) (m 2 _ (by simp[go_sem])) (s 0 _ (by simp[go_sem])) (s 1 _ (by simp[go_sem])) (s 2 _ (by simp[go_sem]))
     (λX W=>u.o X ((Ag l.o h).trans (W.mono (Ag l.o h).size)))
   rintro e w3⟨rfl,L⟩;have N:=qh<|Ag l.o L;clear L;generalize limR (F x y)=lr at *;obtain⟨ls,ln⟩:=lr;go_wp2;go_ret2;exact⟨rfl,N.o⟩
def Se(x y:Rat)(w:World)(d:fitQ x)(g:fitQ y)(o:Tab w):Calls prog 186 #[nv x,nv y] w (QEnd (x+y) w):=by
 have i:∀c,Below w.heap.size w c->Tab c:=λc h=>o.below h nlr;have l:fits (x.num.natAbs*y.den):=Bo d.1 g.2;have m:fits (y.num.natAbs*x.den):=Bo g.1 d.2;have j:fits (x.num.natAbs*y.den+y.num.natAbs*x.den):=FU d.1 g.2 g.1 d.2;have k:fits (x.den*y.den):=Bo d.2 g.2;unfold QEnd;rw[LQ x y];exact Sf (negQ x) (negQ y) _ _ _ _ (str (dec (x.num.natAbs*y.den))) (str (dec (y.num.natAbs*x.den))) _ (str (dec (x.den*y.den))) _ _ w (qE _)
  (λc h=>CK _ _ c (BF d) (Bc g) l (i c h)) (λc h=>CK _ _ c (BF g) (Bc d) m (i c h))
  (λc h=>Ky (negQ x) (negQ y) _ _ c j (i c h)) (λc h=>CK _ _ c (Bc d) (Bc g) k (i c h))
  (λc h=>Im _ _ _ c (Cj j (Lk _ _ _ _)) k (Nat.mul_ne_zero x.den_nz y.den_nz) (i c h))
def Zq(x y:Rat)(w:World)(d:fitQ x)(g:fitQ y)(o:Tab w):Calls prog 212 #[nv x,nv y] w (QEnd (x-y) w):=by
 have i:∀c,Below w.heap.size w c->Tab c:=λc h=>o.below h nlr;have l:fits (x.num.natAbs*y.den):=Bo d.1 g.2;have m:fits (y.num.natAbs*x.den):=Bo g.1 d.2;have j:fits (x.num.natAbs*y.den+y.num.natAbs*x.den):=FU d.1 g.2 g.1 d.2;have k:fits (x.den*y.den):=Bo d.2 g.2;unfold QEnd;rw[Zp x y];exact Zr (negQ x) (negQ y) _ _ _ _ (str (dec (x.num.natAbs*y.den))) (str (dec (y.num.natAbs*x.den))) _ (str (dec (x.den*y.den))) _ _ w (qE _)
  (λc h=>CK _ _ c (BF d) (Bc g) l (i c h)) (λc h=>CK _ _ c (BF g) (Bc d) m (i c h))
  (λc h=>Ky (negQ x) (!negQ y) _ _ c j (i c h)) (λc h=>CK _ _ c (Bc d) (Bc g) k (i c h))
  (λc h=>Im _ _ _ c (Cj j (Lk _ _ _ _)) k (Nat.mul_ne_zero x.den_nz y.den_nz) (i c h))
def Wu(x y:Rat)(w:World)(d:fitQ x)(g:fitQ y)(l:Tab w):Calls prog 192 #[nv x,nv y] w (QEnd (x*y) w):=by
 have i:∀c,Below w.heap.size w c->Tab c:=λc h=>l.below h nlr;have j:fits (x.num.natAbs*y.num.natAbs):=Bo d.1 g.1;have k:fits (x.den*y.den):=Bo d.2 g.2;unfold QEnd;rw[Oq x y];exact Ww (negQ x) (negQ y) _ _ _ _ (str (dec (x.num.natAbs*y.num.natAbs))) (str (dec (x.den*y.den))) _ w (qE _)
  (λc h=>CK _ _ c (BF d) (BF g) j (i c h)) (λc h=>CK _ _ c (Bc d) (Bc g) k (i c h))
  (λc h=>Im _ _ _ c j k (Nat.mul_ne_zero x.den_nz y.den_nz) (i c h))
def TU(x y:Rat)(w:World)(d:fitQ x)(g:fitQ y)(l:y≠0)(m:Tab w):Calls prog 213 #[nv x,nv y] w (QEnd (x / y) w):=by
 have i:∀c,Below w.heap.size w c->Tab c:=λc h=>m.below h nlr;have j:fits (x.num.natAbs*y.den):=Bo d.1 g.2;have k:fits (x.den*y.num.natAbs):=Bo d.2 g.1;unfold QEnd;rw[Na x y];exact TV (negQ x) (negQ y) _ _ _ _ (str (dec (x.num.natAbs*y.den))) (str (dec (x.den*y.num.natAbs))) _ w (qE _)
  (λc h=>CK _ _ c (BF d) (Bc g) j (i c h)) (λc h=>CK _ _ c (Bc d) (BF g) k (i c h))
  (λc h=>Im _ _ _ c j k ((Nat.mul_ne_zero x.den_nz (λe=>l (Rat.num_eq_zero.1 (Int.natAbs_eq_zero.1 e))))) (i c h))
def Uv:∀args w,(callFunc 186 args).run prog w=.ok (.enter 186 args) w:=λargs w=>by kernel_rfl
def Pf(a b:ByteArray)(w:World)(g:a.size<=9223372036854775807)(hb:b.size<=9223372036854775807)(d:Tab w):
  Calls prog 158 #[.string a,.string b] w (PairEnd (Be a b) w):=by
 have c:=FO 186 (λx y=>x+y) a b w g hb d Uv (λx y k l m h=>Se x y m (AX k).2 (AX l).2 (d.below h nlr));have i:okR (λx y=>x+y) a b=Be a b:=rfl;rw[i]at c;generalize Be a b=r at *;obtain⟨p,o⟩:=r;replace c:=qh c;clear i d g hb
 go_enter func158,ntmps158
 go_wp2_with fail
 refine c.o.mono ?_;rintro e s⟨rfl,hb⟩;have j:=qh hb;clear hb;go_wp2;go_ret2;exact⟨rfl,j.o⟩
def UI:∀args w,(callFunc 212 args).run prog w=.ok (.enter 212 args) w:=λargs w=>by kernel_rfl
def Xy(a b:ByteArray)(w:World)(g:a.size<=9223372036854775807)(hb:b.size<=9223372036854775807)(d:Tab w):
  Calls prog 193 #[.string a,.string b] w (PairEnd (Cd a b) w):=by
 have c:=FO 212 (λx y=>x-y) a b w g hb d UI (λx y k l m h=>Zq x y m (AX k).2 (AX l).2 (d.below h nlr));have i:okR (λx y=>x-y) a b=Cd a b:=rfl;rw[i]at c;generalize Cd a b=r at *;obtain⟨p,o⟩:=r;replace c:=qh c;clear i d g hb
 go_enter func193,ntmps193
 go_wp2_with fail
 refine c.o.mono ?_;rintro e s⟨rfl,hb⟩;have j:=qh hb;clear hb;go_wp2;go_ret2;exact⟨rfl,j.o⟩
def UE:∀args w,(callFunc 192 args).run prog w=.ok (.enter 192 args) w:=λargs w=>by kernel_rfl
def Ph(a b:ByteArray)(w:World)(g:a.size<=9223372036854775807)(hb:b.size<=9223372036854775807)(d:Tab w):
  Calls prog 162 #[.string a,.string b] w (PairEnd (BV a b) w):=by
 have c:=FO 192 (λx y=>x*y) a b w g hb d UE (λx y k l m h=>Wu x y m (AX k).2 (AX l).2 (d.below h nlr));have i:okR (λx y=>x*y) a b=BV a b:=rfl;rw[i]at c;generalize BV a b=r at *;obtain⟨p,o⟩:=r;replace c:=qh c;clear i d g hb
 go_enter func162,ntmps162
 go_wp2_with fail
 refine c.o.mono ?_;rintro e s⟨rfl,hb⟩;have j:=qh hb;clear hb;go_wp2;go_ret2;exact⟨rfl,j.o⟩
def Ih(a:ByteArray)(w:World)(d:a.size<=9223372036854775807)(g:Tab w):
  Calls prog 160 #[.string a] w λe w'=>e=.returned (.bool (prs a).isSome)/\Below w.heap.size w w':=by
 have c:=Gm a w d g;obtain⟨r,x,y,h⟩:=Ku<|prs a;rw[h]at c;generalize (prs a).isSome=o at *;replace c:=qh c;clear h d g
 go_enter func160,ntmps160
 go_wp2_with fail
 refine c.o.mono ?_;rintro e w'⟨rfl,hb⟩;replace hb:=qh hb;go_wp2;go_ret;exact⟨rfl,hb.o⟩
theorem Gp:prs ⟨#[48]⟩=some 0:=by
 have:txt 0=⟨#[48]⟩:=by unfold txt txtL;rw[show negQ 0=false from rfl,show (0:Rat).num.natAbs=0 from rfl,show (0:Rat).den=1 from rfl,CG];rfl
 rw[<-this];exact Bm (by unfold fitQ;rw[show (0:Rat).num.natAbs=0 from rfl,show (0:Rat).den=1 from rfl,CG,Ch];decide)
def Pd{b:ByteArray}(h:prs b=some 0):b=⟨#[48]⟩:=by
 have c:=(AX h).1;have d:=(AX Gp).1;rw[c,d]
theorem Ni:∀args w,(callFunc 213 args).run prog w=.ok (.enter 213 args) w:=λargs w=>by kernel_rfl
def Xx(a b:ByteArray)(w:World)(k:a.size<=9223372036854775807)(hb:b.size<=9223372036854775807)(j:Tab w):
  Calls prog 194 #[.string a,.string b] w (PairEnd (Bq a b) w):=by
 have c1:=Ih a w k j;by_cases m:b=⟨#[48]⟩
 ·subst m;cases d:prs a with
  |some x =>
   have g:Bq a ⟨#[48]⟩=(str [],4):=by unfold Bq;rw[d,Gp];simp
   rw[g];rw[d]at c1;simp only[Option.isSome]at c1;have l:=qh c1;clear c1 k hb j d g
   go_enter func194,ntmps194
   go_wp2_with fail
   refine l.o.mono ?_;rintro e K⟨rfl,hb⟩;have B:=qh hb;clear hb;go_wp2;go_ret2;exact⟨rfl,B.o⟩
  |none =>
   have g:Bq a ⟨#[48]⟩=(str [],1):=by unfold Bq;rw[d]
   rw[g];have c2:=λp (h:Below w.heap.size w p)=>FO 213 (λx y=>x / y) a ⟨#[48]⟩ p k hb (j.below h nlr) Ni (λx y s=>by rw[d]at s;simp at s);have z:okR (λx y=>x / y) a ⟨#[48]⟩=(str [],1):=by unfold okR;rw[d]
   rw[z]at c2;rw[d]at c1;simp only[Option.isSome]at c1;have l:=qh c1;have u:=qh c2;clear c1 c2 k hb j d g z
   go_enter func194,ntmps194
   go_wp2_with fail
   refine nxa l.o λF c=>?_
   go_wp2_with fail
   refine nxb (u.o _ c.o) c λG i=>?_;go_wp2;go_ret2;exact⟨rfl,i.o⟩
 have E:(b.toList==[48])=false:=BU m;have c2:=λp (h:Below w.heap.size w p)=>FO 213 (λx y=>x / y) a b p k hb (j.below h nlr) Ni
  (λx y s A H D=>TU x y H (AX s).2 (AX A).2 (λe=>by subst e;exact m (Pd A)) (j.below (h.trans (D.mono h.size)) nlr))
 have g:okR (λx y=>x / y) a b=Bq a b:=by
  unfold okR Bq;cases d:prs a with
  |none=>rfl
  |some x =>
   cases C:prs b with
   |none=>rfl
   |some y=>simp only;rw[ifn (λe=>by subst e;exact m (Pd C))]
 rw[g]at c2;generalize Bq a b=r at *;obtain⟨J,I⟩:=r;generalize (prs a).isSome=o at *;have l:=qh c1;have u:=qh c2;clear c1 c2 k hb j g m;cases o
 rotate_left
 all_goals
  go_enter func194,ntmps194
  go_wp2_with fail
  refine nxa l.o λF c=>?_
  go_wp2_with fail
  refine nxb (u.o _ c.o) c λG i=>?_;go_wp2;go_ret2;exact⟨rfl,i.o⟩
end
section
open Go.RowKit
attribute [local go_sem ↓] Go.wp_at_zero Go.wp_at_succ
def Ts(p q:Bool)(B E u C a b c:ByteArray)(s:Bool)(v:Int)(s1 s2:ByteArray)(w:World)
  (D:((c.toList==[48])=true/\v=0)\/((c.toList==[48])=false/\s=true/\v=-1)\/((c.toList==[48])=false/\s=false/\v=1))
  (c0:∀wx,Below w.heap.size w wx->Calls prog 191 #[.string s1] wx λe w'=>e=.returned (.tuple #[.agg #[.bool p,.string B,.string E],.bool true])/\Below wx.heap.size wx w')
  (G:∀wx,Below w.heap.size w wx->Calls prog 191 #[.string s2] wx λe w'=>e=.returned (.tuple #[.agg #[.bool q,.string u,.string C],.bool true])/\Below wx.heap.size wx w')
  (c1:∀wx,Below w.heap.size w wx->Calls prog 189 #[.string B,.string C] wx (StrZ a wx))
  (c2:∀wx,Below w.heap.size w wx->Calls prog 189 #[.string u,.string E] wx (StrZ b wx))
  (c3:∀wx,Below w.heap.size w wx->Calls prog 187 #[.bool p,.string a,.bool (!q),.string b] wx λe w'=>e=.returned (.tuple #[.bool s,.string c])/\Below wx.heap.size wx w') :
  Calls prog 195 #[.string s1,.string s2] w (IntEnd v w):=by
 replace c0:=qh c0;have I:=qh G;clear G;replace c1:=qh c1;replace c2:=qh c2;replace c3:=qh c3;have Q:=qh D;clear D
 go_enter func195,ntmps195
 go_wp2_with fail
 refine(c0.o _ blr).mono ?_;rintro e k⟨rfl,l⟩;have P:=qh l;have z:=qh<|l.alloc l.size (.cells #[.bool p,.string B,.string E] 189);clear l
 go_wp2_with fail
 refine(I.o _ z.o).mono ?_;rintro e o⟨rfl,m⟩;have F:=qh m;have j:=qh<|(Ag z.o m).alloc (Nat.le_trans z.o.size m.size) (.cells #[.bool q,.string u,.string C] 189);clear m
 go_wp2_with fail
 obtain⟨W,H⟩:=exq<|o.alloc (.cells #[.bool q,.string u,.string C] 189);have d:∀g,Below W.heap.size W g->(Below W.heap.size W g/\
  g.cell? (Ad k.heap.size 0)=some (.bool p)/\g.cell? (Ad k.heap.size 1)=some (.string B)/\g.cell? (Ad k.heap.size 2)=some (.string E)/\
  g.cell? (Ad o.heap.size 0)=some (.bool q)/\g.cell? (Ad o.heap.size 1)=some (.string u)/\g.cell? (Ad o.heap.size 2)=some (.string C)):=by
  intro g h;subst H;have U:=F.o.size;rw[World.size_alloc]at U;have J:∀(i:Nat) (v:Value),(k.alloc (.cells #[.bool p,.string B,.string E] 189)).cell? (Ad k.heap.size i)=some v->g.cell? (Ad k.heap.size i)=some v:=by
   intro i v D;refine(h.cell (p:=(Ad k.heap.size i)) (by rw[World.size_alloc];show k.heap.size<_;omega)).trans ?_;rw[World.cell?_alloc_past (hn:=by omega)];exact(F.o.cell (p:=(Ad k.heap.size i)) (by rw[World.size_alloc];show k.heap.size<_;omega)).trans D
  have K:∀(i:Nat) (v:Value),(o.alloc (.cells #[.bool q,.string u,.string C] 189)).cell? (Ad o.heap.size i)=some v->g.cell? (Ad o.heap.size i)=some v:=by
   intro i v D;exact(h.cell (p:=(Ad o.heap.size i)) (by rw[World.size_alloc];show o.heap.size<_;omega)).trans D
  exact⟨h,J 0 _ (by simp[go_sem]),J 1 _ (by simp[go_sem]),J 2 _ (by simp[go_sem]),K 0 _ (by simp[go_sem]),K 1 _ (by simp[go_sem]),K 2 _ (by simp[go_sem])⟩
 rw[<-H];rw[<-H]at j;replace d:=qh d;replace H:=qh H;have R:Below W.heap.size W W.drew:=blr.drew
 go_region_held2 (λg=>Below W.heap.size W g/\
  g.cell? (Ad k.heap.size 0)=some (.bool p)/\g.cell? (Ad k.heap.size 1)=some (.string B)/\g.cell? (Ad k.heap.size 2)=some (.string E)/\
  g.cell? (Ad o.heap.size 0)=some (.bool q)/\g.cell? (Ad o.heap.size 1)=some (.string u)/\g.cell? (Ad o.heap.size 2)=some (.string C))
  (first|exact d.o _ (by assumption)|exact d.o _ blr.drew)
  (first
   |(go_at_call_of 189 (Value.string B);refine(c1.o _ (Ag j.o (by assumption))).mono ?_;rintro e k⟨rfl,l⟩;have S:=Ag (by assumption) l)
   |(go_at_call_of 189 (Value.string u);refine(c2.o _ (Ag j.o (by assumption))).mono ?_;rintro e o⟨rfl,m⟩;have T:=Ag (by assumption) m)
   |(go_at_call 188;refine(Bd _ _).mono ?_;rintro e w'⟨rfl,rfl⟩)
   |(go_at_call 187;refine(c3.o _ (Ag j.o (by assumption))).mono ?_;rintro e X⟨rfl,L⟩;have N:=Ag (by assumption) L))
 have A:=qh N
 rcases Q.o with⟨O,rfl⟩|⟨O,rfl,rfl⟩|⟨O,rfl,rfl⟩
 ·go_wp2;go_ret;exact⟨rfl,Ag j.o A.o⟩
 ·go_wp2;go_ret;exact⟨rfl,Ag j.o A.o⟩
 go_wp2;go_ret;exact⟨rfl,Ag j.o A.o⟩
theorem YE(n:Nat):((str (dec n)).toList==[48])=decide (n=0):=by
 rw[str_eq,decide_eq_decide];exact⟨λh=>CF (h.trans CG.symm),λh=>by rw[h,CG]⟩
def Kw(a b:ByteArray)(w:World)(D:a.size<=9223372036854775807)(hb:b.size<=9223372036854775807)(E:Tab w):
  Calls prog 195 #[.string a,.string b] w (IntEnd (Bp a b) w):=by
 have m:∀c,Below w.heap.size w c->Tab c:=λc h=>E.below h nlr;have c1:=λc (h:Below w.heap.size w c)=>Gm a c D (m c h);have c2:=λc (h:Below w.heap.size w c)=>Gm b c hb (m c h);cases l:prs a with
 |none =>
  have p:Bp a b=0:=by unfold Bp;rw[l]
  rw[p];simp only[l,Option.isSome,prsV]at c1;generalize (prs b).isSome=o at c2;obtain⟨r,x,y,G⟩:=Ku<|prs b;rw[G]at c2;have B:=qh c1;clear c1;have C:=qh c2;clear c2 p l G E D hb m;unfold NoNum nvS at B
  go_enter func195,ntmps195
  go_wp2_with fail
  refine(B.o _ blr).mono ?_;rintro e K⟨rfl,d⟩;have g:=qh<|d.alloc d.size (.cells #[.bool false,.string ⟨#[]⟩,.string ⟨#[]⟩] 189);clear d
  go_wp2_with fail
  refine(C.o _ g.o).mono ?_;rintro e L⟨rfl,j⟩;have i:=qh<|Ag g.o j;clear j;go_wp2;go_ret;exact⟨rfl,i.o.alloc i.o.size _⟩
 |some x =>
  simp only[l,Option.isSome,prsV]at c1;cases u:prs b with
  |none =>
   have p:Bp a b=0:=by unfold Bp;rw[l,u]
   rw[p];simp only[u,Option.isSome,prsV]at c2;have B:=qh c1;clear c1;have C:=qh c2;clear c2 p l u E D hb m;unfold NoNum nvS at C;unfold nv nvS at B
   go_enter func195,ntmps195
   go_wp2_with fail
   refine(B.o _ blr).mono ?_;rintro e K⟨rfl,d⟩;have g:=qh<|d.alloc d.size (.cells #[.bool (negQ x),.string (str (dec x.num.natAbs)),.string (str (dec x.den))] 189);clear d
   go_wp2_with fail
   refine(C.o _ g.o).mono ?_;rintro e L⟨rfl,j⟩;have i:=qh<|Ag g.o j;clear j;go_wp2;go_ret;exact⟨rfl,i.o.alloc i.o.size _⟩
  |some y =>
   have z:=(AX l).2;have A:=(AX u).2;have p:Bp a b=cmpQ x y:=by unfold Bp;rw[l,u]
   rw[p];simp only[u,Option.isSome,prsV]at c2;have H:fits (x.num.natAbs*y.den):=Bo z.1 A.2;have I:fits (y.num.natAbs*x.den):=Bo A.1 z.2;have J:fits (x.num.natAbs*y.den+y.num.natAbs*x.den):=FU z.1 A.2 A.1 z.2;refine Ts (negQ x) (negQ y) _ _ _ _ (str (dec (x.num.natAbs*y.den))) (str (dec (y.num.natAbs*x.den))) (str (dec (sumF (negQ x) (x.num.natAbs*y.den) (!negQ y) (y.num.natAbs*x.den)).2)) (sumF (negQ x) (x.num.natAbs*y.den) (!negQ y) (y.num.natAbs*x.den)).1 (cmpQ x y) a b w ?_ c1 c2
    (λc h=>CK _ _ c (BF z) (Bc A) H (m c h)) (λc h=>CK _ _ c (BF A) (Bc z) I (m c h))
    (λc h=>Ky (negQ x) (!negQ y) _ _ c J (m c h))
   rw[MF x y,YE];generalize sumF (negQ x) (x.num.natAbs*y.den) (!negQ y) (y.num.natAbs*x.den)=r;obtain⟨s,k⟩:=r;by_cases F:k=0
   ·left;simp[F]
   right;cases s<;>simp[F]
end
section
open Go.RowKit
abbrev fv(g:FuncId):Value:=.func (.func g) #[] #[]
def ring0:Array Value:=#[.string ⟨#[]⟩,.string ⟨#[]⟩,.bool false,.nilFunc,.nilFunc,.nilFunc,.nilFunc,.nilFunc]
def ring1:Array Value:=#[.string ⟨#[105,110,102]⟩,.string ⟨#[48]⟩,.bool true,fv 157,fv 158,fv 159,fv 160,fv 160]
def ring2:Array Value:=#[.string ⟨#[48]⟩,.string ⟨#[49]⟩,.bool false,fv 161,fv 162,fv 163,fv 164,fv 165]
def ring3:Array Value:=#[.string ⟨#[48]⟩,.string ⟨#[49]⟩,.bool false,fv 157,fv 162,fv 166,fv 164,fv 165]
def CO:Array Value:=#[.string ⟨#[]⟩,.string ⟨#[]⟩,.bool false,.nilFunc,.nilFunc,.nilFunc,.nilFunc,.nilFunc,
 .string ⟨#[105,110,102]⟩,.string ⟨#[48]⟩,.bool true,fv 157,fv 158,fv 159,fv 160,fv 160,
 .string ⟨#[48]⟩,.string ⟨#[49]⟩,.bool false,fv 161,fv 162,fv 163,fv 164,fv 165,
 .string ⟨#[48]⟩,.string ⟨#[49]⟩,.bool false,fv 157,fv 162,fv 166,fv 164,fv 165]
theorem LF{P:Program}{g:Array Oper}{d:List Oper}{i:Oper}{a:Act}{w:World}{Q:Exit->Act->World->Prop}(j:i.guard=none)(t:TypeId)(x y:Operand)(m:i.op=.store t x y)
  (c c':Array Value) (p:a.eval x=.pointer (some (Ad w.heap.size 0))) (s:a.eval y=.agg c') (hi:(P.info? t).map (·.size)=some c'.size) (o:c.size=c'.size) (k:c'.all (·.oneCell')=true)
  (h:wpList P g Q d (a.put i.dst undef) (w.alloc (.cells c' t))):wpList P g Q (i::d) a (w.alloc (.cells c t)) :=
 wpList_plain j λ_ l=>by
  unfold Oper.wp execOp;simp only[m,p,s,Instr.storeAt,Instr.sureAddr,Sem.run_bind,Sem.run_pure,Result.andThen_ok,run_storeVar_new w t c c' hi o k];exact l _ _ h
def KE{fn:Func}{p:Tmp}{d:TypeId}(h:fn.results=#[.cell p d])(c:Array Value)(P:Program)(w:World):
  (results fn c).run P w=((asAddr (c.getD p undef)).run P w).andThen λa w₁=>(loadVar d a).run P w₁:=by
 simp only[results,h];simp[Sem.run_bind,Result.andThen]
theorem KQ(w:World):Calls prog 134 #[] w λe w'=>e=.returned (.agg CO)/\Below w.heap.size w w':=by
 have hi:(prog.info? 150).map (·.size)=some CO.size:=by kernel_rfl
 have c:CO.all (·.oneCell')=true:=by decide +kernel
 replace hi:=qh hi;replace c:=qh c
 go_enter func134,ntmps134
 go_wp2_with (refine LF rfl 150 (.tmp 0) (.tmp 4) rfl _ CO rfl rfl hi.o rfl c.o ?_)
 refine bodyPost_ret (v:=.agg CO) ?_ rfl ⟨rfl,blr.alloc nlr _⟩;rw[KE rfl];exact run_loadVar_new w 150 CO 4 123 underlying150 hi.o
def there8{w wk:World}{c:Array Value}{t:TypeId}(g:c.size=8)(h:Below (w.alloc (.cells c t)).heap.size (w.alloc (.cells c t)) wk):wk.there w.heap.size 0 8:=by
 intro j i;have d:w.heap.size<(w.alloc (.cells c t)).heap.size:=by simp
 have e:=h.cell (p:=(Ad w.heap.size (0+j))) d;have f:=h.frozen (p:=(Ad w.heap.size (0+j))) d;rw[e,f]
 constructor
 ·rw[cell_of_row _ _ (0+j) c t (0,0) (heap_alloc_last w _)];simp[g,i]
 exact World.frozen?_alloc_new w c t _
def OfEnd(r:Array Value)(b:Bool)(w:World)(e:Ending)(w':World):Prop:=e=.returned (.tuple #[.agg r,.bool b])/\Below w.heap.size w w'
def KF{fn:Func}{p u:Tmp}(h:fn.results=#[.cell p 123,.tmp u])(c:Array Value)(W:World)(b:Nat)(r:List Value)(v:Value)(g:c.getD p undef=.pointer (some (Ad b 0)))(j:c.getD u undef=v)
  (i:r.length=8) (d:W.rangeAt b 0 r):(results fn c).run prog W=.ok (.tuple #[.agg r.toArray,v]) W:=by
 rw[results_cell_tmp h,g,j];have hi:(prog.info? 123).map (·.size)=some r.length:=by rw[i];kernel_rfl
 have:=run_loadVar_mid (P:=prog) W b 0 123 r _ d underlying123 rfl hi;show ((loadVar 123 (Ad b 0)).run prog W).andThen _=_;rw[this];rfl
def Pn(w:World)(c:Array Value)(t:TypeId):(w.alloc (.cells c t)).rangeAt w.heap.size 0 c.toList:=by
 intro j v d;rw[cell_of_row _ _ (0+j) c t (0,0) (heap_alloc_last w _)];rw[Nat.zero_add];rw[Array.getElem?_toList]at d;exact d
def WN(k:Int)(w:World)(d:k<1\/3<k):Calls prog 97 #[.int .i64 k] w (OfEnd ring0 false w):=by
 have hi:(prog.info? 123).map (·.size)=some ring0.size:=by kernel_rfl
 have c:ring0.all (·.oneCell')=true:=by decide +kernel
 replace hi:=qh hi;replace c:=qh c
 rcases d with d|d
 ·go_enter func97,ntmps97
  go_wp2_with (refine LF rfl 123 (.tmp 2) (.tmp 10) rfl _ ring0 rfl rfl hi.o rfl c.o ?_)
  exact bodyPost_ret (KF rfl _ _ w.heap.size ring0.toList (.bool false) rfl rfl rfl (Pn w ring0 _)) rfl ⟨rfl,blr.alloc nlr _⟩
 have g:decide (k<1)=false:=by rw[decide_eq_false_iff_not];omega
 go_enter func97,ntmps97
 go_wp2_with (refine LF rfl 123 (.tmp 2) (.tmp 10) rfl _ ring0 rfl rfl hi.o rfl c.o ?_)
 exact bodyPost_ret (KF rfl _ _ w.heap.size ring0.toList (.bool false) rfl rfl rfl (Pn w ring0 _)) rfl ⟨rfl,blr.alloc nlr _⟩
theorem Mm{B b:Nat}{a:World}:∀{w:World},Below B a w->B<=b->∀(vs:List Value) (o:Nat),Below B a (w.setCells b o vs)
 |_,h,_,[],_=>h
 |_,h,hB,v::vs,o=>Mm (h.setCell (p:=(Ad b o)) hB v) hB vs (o+1)
def Kk(k:Int)(l R:Array Value)(w:World)(p:1<=k)(z:k<=3)(c:R.size=8)(m:R.all (·.oneCell')=true)(o:∀wx,Calls prog 134 #[] wx λe w'=>e=.returned (.agg l)/\Below wx.heap.size wx w')
  (B:∀w,(Instr.index 150 (.agg l) (.int .i64 k)).run prog w=.ok (.agg R) w):Calls prog 97 #[.int .i64 k] w (OfEnd R true w):=by
 have hi:(prog.info? 123).map (·.size)=some R.size:=by rw[c];kernel_rfl
 replace hi:=qh hi;replace m:=qh m;replace o:=qh o;replace c:=qh c;have s:decide (k<1)=false:=by rw[decide_eq_false_iff_not];omega
 have u:decide (3<k)=false:=by rw[decide_eq_false_iff_not];omega
 have d:Below w.heap.size w (w.alloc (.cells ring0 123)):=blr.alloc nlr _;replace d:=qh d
 go_enter func97,ntmps97
 go_wp2_with fail
 refine(o.o _).mono ?_;rintro e A⟨rfl,g⟩;replace g:=qh g;have j:=there8 rfl g.o;rw[<-c.o]at j;replace j:=qh j
 go_wp2_with (refine wpList_store_mid rfl 123 (.tmp 2) (.tmp 13) rfl w.heap.size 0 R rfl rfl j.o hi.o m.o ?_)
 have i:=World.rangeAt_setCells_same A w.heap.size 0 R.toList (by rw[Array.length_toList];exact j.o);have h:=KF (fn:=f97) rfl #[.int .i64 k,undef,.pointer (some (Ad w.heap.size 0)),.bool true,.int .i64 k,.bool false,.bool false,.int .i64 k,.bool false,.bool false,undef,.agg l,.int .i64 k,.agg R] _ w.heap.size R.toList (.bool true) rfl rfl (by rw[Array.length_toList];exact c.o) i;rw[Array.toArray_toList]at h;exact bodyPost_ret h rfl ⟨rfl,Mm (d.o.trans (g.o.mono d.o.size)) nlr _ _⟩
def Vq(w:World):(Instr.index 150 (.agg CO) (.int .i64 1)).run prog w=.ok (.agg ring1) w:=by kernel_rfl
def of_1(w:World):Calls prog 97 #[.int .i64 1] w (OfEnd ring1 true w) :=
 Kk 1 CO ring1 w (by decide) (by decide) rfl (by decide +kernel) KQ Vq
def Vr(w:World):(Instr.index 150 (.agg CO) (.int .i64 2)).run prog w=.ok (.agg ring2) w:=by kernel_rfl
def of_2(w:World):Calls prog 97 #[.int .i64 2] w (OfEnd ring2 true w) :=
 Kk 2 CO ring2 w (by decide) (by decide) rfl (by decide +kernel) KQ Vr
def Vs(w:World):(Instr.index 150 (.agg CO) (.int .i64 3)).run prog w=.ok (.agg ring3) w:=by kernel_rfl
def of_3(w:World):Calls prog 97 #[.int .i64 3] w (OfEnd ring3 true w) :=
 Kk 3 CO ring3 w (by decide) (by decide) rfl (by decide +kernel) KQ Vs
def Fv(k:Int):Array Value:=if k=1 then ring1 else if k=2 then ring2 else if k=3 then ring3 else ring0
def Ez(k:Int)(w:World):Calls prog 97 #[.int .i64 k] w (OfEnd (Fv k) (Ao k) w):=by
 by_cases h:k<1\/3<k
 ·have c:Fv k=ring0:=by unfold Fv;rw[ifn (by omega),ifn (by omega),ifn (by omega)]
  have d:Ao k=false:=by unfold Ao;rw[Bool.and_eq_false_iff];simp;omega
  rw[c,d];exact WN k w h
 have:k=1\/k=2\/k=3:=by omega
 rcases this with rfl|rfl|rfl
 ·exact of_1 w
 ·exact of_2 w
 exact of_3 w
theorem Ck:infS.toList=[105,110,102]:=by rw[Lib.toList_data];rfl
theorem Da:lowS.toList=[45,105,110,102]:=by rw[Lib.toList_data];rfl
def GI{q:Rat}(h:fitQ q):((txt q).toList==[105,110,102])=false:=by
 refine BU (l:=[105,110,102]) (λe=>?_);have:=Bm h;rw[e]at this;have c:=Ig;unfold infS at c;rw[show str [105,110,102]=(⟨#[105,110,102]⟩:ByteArray) from rfl,c]at this;simp at this
def Lt{q:Rat}(h:fitQ q):((txt q).toList==[45,105,110,102])=false:=by
 refine BU (l:=[45,105,110,102]) (λe=>?_);have:=Bm h;rw[e]at this;have c:=Gn;unfold lowS at c;rw[show str [45,105,110,102]=(⟨#[45,105,110,102]⟩:ByteArray) from rfl,c]at this;simp at this
def Pg{x y:Rat}(c:fitQ x)(d:fitQ y):Bp (txt x) (txt y)=cmpQ x y:=by unfold Bp;rw[Bm c,Bm d]
theorem GK(v u:V)(w:World)(A:fitV v)(p:fitV u)(S:Tab w):Calls prog 184 #[.string (vtxt v),.string (vtxt u)] w (IntEnd (cmpV v u) w):=by
 have K:∀(a b:ByteArray) (z:Int) (i:z=0/\a=b\/a≠b) (c:a≠b->a≠infS->a≠lowS->b≠infS->b≠lowS->Calls prog 195 #[.string a,.string b] w (IntEnd z w))
   (B:a≠b->((a=lowS\/b=infS)/\z=-1)\/(a≠lowS/\b≠infS/\(b=lowS\/a=infS)/\z=1)\/(a≠lowS/\b≠infS/\b≠lowS/\a≠infS)),
   Calls prog 184 #[.string a,.string b] w (IntEnd z w):=by
  intro a b z i c B
  rcases i with⟨rfl,rfl⟩|i
  ·clear c B
   go_enter func184,ntmps184
   go_wp2;go_ret;exact⟨rfl,blr⟩
  have R:(a.toList==b.toList)=false:=by rw[beq_eq_false_iff_ne];exact Ov i
  have o:∀s:ByteArray,s≠lowS->(s.toList==[45,105,110,102])=false:=λs h=>BU (l:=[45,105,110,102]) h;have D:∀s:ByteArray,s≠infS->(s.toList==[105,110,102])=false:=λs h=>BU (l:=[105,110,102]) h;replace o:=qh o;replace D:=qh D
  rcases B i with⟨d,rfl⟩|⟨d,k,m,rfl⟩|⟨d,k,m,E⟩
  ·clear c B;by_cases j:a=lowS;have G:(a.toList==[45,105,110,102])=true:=by rw[j,Da];rfl
   rotate_left
   have G:=o.o a j;have L:(b.toList==[105,110,102])=true:=by rw[d.resolve_left j,Ck];rfl
   all_goals
    clear i d j
    go_enter func184,ntmps184
    go_wp2;go_ret;exact⟨rfl,blr⟩
  ·clear c B;have G:=o.o a d;have L:=D.o b k;by_cases g:b=lowS
   ·have N:(b.toList==[45,105,110,102])=true:=by rw[g,Da];rfl
    cases O:(a.toList==[105,110,102])
    all_goals
     clear i d k m g
     go_enter func184,ntmps184
     go_wp2;go_ret;exact⟨rfl,blr⟩
   have N:=o.o b g;have O:(a.toList==[105,110,102])=true:=by rw[m.resolve_left g,Ck];rfl
   clear i d k m g
   go_enter func184,ntmps184
   go_wp2;go_ret;exact⟨rfl,blr⟩
  have G:=o.o a d;have L:=D.o b k;have N:=o.o b m;have O:=D.o a E;have C:=qh<|c i E d k m;clear c B i d k m E
  go_enter func184,ntmps184
  go_wp2_with fail
  refine nxa C.o λT Q=>?_;go_wp2;go_ret;exact⟨rfl,Q.o⟩
 refine K _ _ _ ?_ ?_ ?_
 ·by_cases h:v=u
  ·subst h;exact .inl ⟨(Ha v v).2 rfl,rfl⟩
  exact .inr<|λe=>h (LC A p e)
 ·intro _ d k m E;cases v with
  |inf=>exact absurd rfl d
  |low=>exact absurd rfl k
  |fin x =>
   cases u with
   |inf=>exact absurd rfl m
   |low=>exact absurd rfl E
   |fin y =>
    have P:=Kw (txt x) (txt y) w (by have:=Di A;omega) (by have:=Di p;omega) S;rw[Pg A p]at P;exact P
 intro h;have F:infS≠lowS:=by decide
 have H:∀q:Rat,fitQ q->txt q≠infS:=λq J e=>by have:=GI J;rw[e,Ck]at this;simp at this
 have I:∀q:Rat,fitQ q->txt q≠lowS:=λq J e=>by have:=Lt J;rw[e,Da]at this;simp at this
 cases v with
 |inf =>
  cases u with
  |inf=>exact absurd rfl h
  |low=>exact .inr (.inl ⟨F,Ne.symm F,.inl rfl,rfl⟩)
  |fin y=>exact .inr (.inl ⟨F,H y p,.inr rfl,rfl⟩)
 |low =>
  cases u with
  |inf=>exact .inl ⟨.inl rfl,rfl⟩
  |low=>exact absurd rfl h
  |fin y=>exact .inl ⟨.inl rfl,rfl⟩
 |fin x =>
  cases u with
  |inf=>exact .inl ⟨.inr rfl,rfl⟩
  |low=>exact .inr (.inl ⟨I x A,Ne.symm F,.inl rfl,rfl⟩)
  |fin y=>exact .inr (.inr ⟨I x A,H y p,I y p,H x A⟩)
variable{a:ByteArray}{k:Int}
theorem Dy:txt 0=⟨#[48]⟩:=((AX Gp).1).symm
def Fa:fitQ 0:=(AX Gp).2
theorem Fs:prs ⟨#[49]⟩=some 1:=by
 have:txt 1=⟨#[49]⟩:=by unfold txt txtL;rw[show negQ 1=false from rfl,show (1:Rat).num.natAbs=1 from rfl,show (1:Rat).den=1 from rfl,Ch];rfl
 rw[<-this];exact Bm (by unfold fitQ;rw[show (1:Rat).num.natAbs=1 from rfl,show (1:Rat).den=1 from rfl,Ch];decide)
theorem Em:txt 1=⟨#[49]⟩:=((AX Fs).1).symm
def EZ:fitQ 1:=(AX Fs).2
def natB(a:ByteArray):Bool:=match prs a with|some q=>decide (0<=q)|none=>false
def posB(a:ByteArray):Bool:=match prs a with|some q=>decide (0<q)|none=>false
def Kv{q:Rat}(h:prs a=some q):Bp a ⟨#[48]⟩=cmpQ q 0:=by unfold Bp;rw[h,Gp]
theorem z0n(a:ByteArray):Aw 1 a=(prs a).isSome:=by
 unfold Aw rdV;by_cases c:a=infS
 ·rw[ifp c,c,Ig];rfl
 rw[ifn c];by_cases d:a=lowS
 ·rw[ifp d,d,Gn];rfl
 rw[ifn d];cases prs a with
 |none=>rfl
 |some q=>simp[wtV]
theorem Ru(g:k=2\/k=3)(a:ByteArray):Aw k a=posB a:=by
 unfold Aw rdV posB;by_cases c:a=infS
 ·rw[ifp c,c,Ig];rfl
 rw[ifn c];by_cases d:a=lowS
 ·rw[ifp d,d,Gn];rfl
 rw[ifn d];cases prs a with
 |none=>rfl
 |some q =>
  show decide (wtV k (.fin q))=decide (0<q);rw[decide_eq_decide]
  constructor
  ·intro h;rcases h with h|h
   ·omega
   exact h.2
  intro h;exact .inr ⟨g,h⟩
def Rk(c:k=1\/k=2\/k=3):Ah k infS=true:=by
 have:vprs k infS=some .inf:=Dz.2 ⟨by simp[rdV],by unfold okV;omega⟩;unfold Ah;rw[this];rfl
theorem Rl:Ah 1 lowS=true:=by
 have:vprs 1 lowS=some .low:=Dz.2 ⟨by simp[rdV,show lowS≠infS by decide],rfl⟩;unfold Ah;rw[this];rfl
def Ri(c:a≠infS)(d:a≠lowS):Ah 1 a=(prs a).isSome:=by
 unfold Ah vprs rdV;rw[ifn c,ifn d];cases prs a with
 |none=>rfl
 |some q=>simp[okV]
theorem Rj(g:k=2\/k=3)(d:a≠infS):Ah k a=natB a:=by
 unfold Ah vprs rdV natB;rw[ifn d];by_cases c:a=lowS
 ·rw[ifp c,c,Gn];have:decide (okV k .low)=false:=by rw[decide_eq_false_iff_not];intro h;change k=1 at h;omega
  simp[Option.filter,this]
 rw[ifn c];cases prs a with
 |none=>rfl
 |some q =>
  have:decide (okV k (.fin q))=decide (0<=q):=by
   rw[decide_eq_decide]
   constructor
   ·intro h;rcases h with h|h
    ·omega
    exact h.2
   intro h;exact .inr ⟨g,h⟩
  simp only[Option.map_some,Option.filter,this];cases decide (0<=q)<;>rfl
def BoolE(b:Bool)(w:World)(e:Ending)(w':World):Prop:=e=.returned (.bool b)/\Below w.heap.size w w'
def Po(a:ByteArray)(w:World)(c:a.size<=9223372036854775807)(d:Tab w):Calls prog 160 #[.string a] w (BoolE (prs a).isSome w):=Ih a w c d
def Ot(a:ByteArray)(w:World)(i:a.size<=9223372036854775807)(j:Tab w):Calls prog 164 #[.string a] w (BoolE (natB a) w):=by
 have c1:=Ih a w i j;have c2:=λo (h:Below w.heap.size w o)=>Kw a ⟨#[48]⟩ o i (by decide) (j.below h nlr);cases d:prs a with
 |none =>
  have g:natB a=false:=by unfold natB;rw[d]
  rw[g];rw[d]at c1;simp only[Option.isSome]at c1;have k:=qh c1;clear c1 c2 d g i j
  go_enter func164,ntmps164
  go_wp2_with fail
  refine nxa k.o λs c=>?_;go_wp2;go_ret;exact⟨rfl,c.o⟩
 |some q =>
  have g:natB a=decide (0<=q):=by unfold natB;rw[d]
  rw[Kv d]at c2;rw[g];rw[d]at c1;simp only[Option.isSome]at c1;have k:=qh c1;clear c1;have m:(decide (0<=q)=decide (0<=cmpQ q 0)):=by
   rcases BM q 0 with⟨h,e⟩|⟨h,e⟩|⟨h,e⟩<;>rw[e]
   ·rw[decide_eq_decide];simp;exact Rat.not_le.2 h
   ·subst h;rfl
   rw[decide_eq_decide];simp;exact Rat.le_of_lt h
  rw[m];have p:cmpQ q 0=-1\/cmpQ q 0=0\/cmpQ q 0=1:=by rcases BM q 0 with⟨h,e⟩|⟨h,e⟩|⟨h,e⟩<;>simp[e]
  generalize cmpQ q 0=z at *;replace c2:=qh c2;clear d g i j m
  rcases p with rfl|rfl|rfl
  all_goals
   go_enter func164,ntmps164
   go_wp2_with fail
   refine nxa k.o λs c=>?_
   go_wp2_with fail
   refine nxb (c2.o _ c.o) c λu l=>?_;go_wp2;go_ret;exact⟨rfl,l.o⟩
def OY(a:ByteArray)(w:World)(i:a.size<=9223372036854775807)(j:Tab w):Calls prog 165 #[.string a] w (BoolE (posB a) w):=by
 have c1:=Ih a w i j;have c2:=λo (h:Below w.heap.size w o)=>Kw a ⟨#[48]⟩ o i (by decide) (j.below h nlr);cases d:prs a with
 |none =>
  have g:posB a=false:=by unfold posB;rw[d]
  rw[g];rw[d]at c1;simp only[Option.isSome]at c1;have k:=qh c1;clear c1 c2 d g i j
  go_enter func165,ntmps165
  go_wp2_with fail
  refine nxa k.o λs c=>?_;go_wp2;go_ret;exact⟨rfl,c.o⟩
 |some q =>
  have g:posB a=decide (0<q):=by unfold posB;rw[d]
  rw[Kv d]at c2;rw[g];rw[d]at c1;simp only[Option.isSome]at c1;have k:=qh c1;clear c1;have m:(decide (0<q)=decide (0<cmpQ q 0)):=by
   rcases BM q 0 with⟨h,e⟩|⟨h,e⟩|⟨h,e⟩<;>rw[e]
   ·rw[decide_eq_decide];simp;exact Rat.not_lt.2<|Rat.le_of_lt h
   ·subst h;rfl
   rw[decide_eq_decide];simp;exact h
  rw[m];have p:cmpQ q 0=-1\/cmpQ q 0=0\/cmpQ q 0=1:=by rcases BM q 0 with⟨h,e⟩|⟨h,e⟩|⟨h,e⟩<;>simp[e]
  generalize cmpQ q 0=z at *;replace c2:=qh c2;clear d g i j m
  rcases p with rfl|rfl|rfl
  all_goals
   go_enter func165,ntmps165
   go_wp2_with fail
   refine nxa k.o λs c=>?_
   go_wp2_with fail
   refine nxb (c2.o _ c.o) c λu l=>?_;go_wp2;go_ret;exact⟨rfl,l.o⟩
def cell_kept{w wk:World}{c:Array Value}{t:TypeId}(h:Below (w.alloc (.cells c t)).heap.size (w.alloc (.cells c t)) wk)(i:Nat):wk.cell? (Ad w.heap.size i)=c[i]?:=by
 have d:w.heap.size<(w.alloc (.cells c t)).heap.size:=by simp
 exact(h.cell (p:=(Ad w.heap.size i)) d).trans (cell_of_row _ _ i c t (0,0) (heap_alloc_last w _))
def Tl(v u:V)(w:World)(m:fitV v)(l:fitV u)(k:Tab w):Calls prog 157 #[.agg ring1,.string (vtxt v),.string (vtxt u)] w (PairEnd (limV (As 1 v u)) w):=by
 have c:Below w.heap.size w (w.alloc (.cells ring1 123)):=blr.alloc nlr _;have c1:=λs (h:Below w.heap.size w s)=>GK v u s m l (k.below h nlr);have j:As 1 v u=if 0<cmpV v u then u else v:=by unfold As;rfl
 rw[j];have i:limV (if 0<cmpV v u then u else v)=(if 0<cmpV v u then vtxt u else vtxt v,0):=by split<;>(rw[Fh];assumption)
 rw[i];have A:=EW v u;generalize cmpV v u=z at *;replace c1:=qh c1;clear k j i;replace c:=qh c;unfold ring1 at c ⊢;generalize vtxt v=a at *;generalize vtxt u=b at *;clear m l
 rcases A with rfl|rfl|rfl
 ·change Calls _ _ _ _ (PairEnd (a,0) w)
  go_enter func157,ntmps157
  go_wp2_with fail
  refine(c1.o _ c.o).mono ?_;rintro e p⟨rfl,hb⟩;have g:=qh hb;have d:=qh<|Ag c.o hb;clear hb;have o:=cell_kept g.o 2;go_wp2;go_ret2;exact⟨rfl,d.o⟩
 ·change Calls _ _ _ _ (PairEnd (a,0) w)
  go_enter func157,ntmps157
  go_wp2_with fail
  refine(c1.o _ c.o).mono ?_;rintro e p⟨rfl,hb⟩;have g:=qh hb;have d:=qh<|Ag c.o hb;clear hb;have o:=cell_kept g.o 2;go_wp2;go_ret2;exact⟨rfl,d.o⟩
 change Calls _ _ _ _ (PairEnd (b,0) w)
 go_enter func157,ntmps157
 go_wp2_with fail
 refine(c1.o _ c.o).mono ?_;rintro e p⟨rfl,hb⟩;have g:=qh hb;have d:=qh<|Ag c.o hb;clear hb;have o:=cell_kept g.o 2;go_wp2;go_ret2;exact⟨rfl,d.o⟩
def Tm(v u:V)(w:World)(m:fitV v)(l:fitV u)(k:Tab w):Calls prog 157 #[.agg ring3,.string (vtxt v),.string (vtxt u)] w (PairEnd (limV (As 3 v u)) w):=by
 have c:Below w.heap.size w (w.alloc (.cells ring3 123)):=blr.alloc nlr _;have c1:=λs (h:Below w.heap.size w s)=>GK v u s m l (k.below h nlr);have j:As 3 v u=if cmpV v u<0 then u else v:=by unfold As;rfl
 rw[j];have i:limV (if cmpV v u<0 then u else v)=(if cmpV v u<0 then vtxt u else vtxt v,0):=by split<;>(rw[Fh];assumption)
 rw[i];have A:=EW v u;generalize cmpV v u=z at *;replace c1:=qh c1;clear k j i;replace c:=qh c;unfold ring3 at c ⊢;generalize vtxt v=a at *;generalize vtxt u=b at *;clear m l
 rcases A with rfl|rfl|rfl
 ·change Calls _ _ _ _ (PairEnd (b,0) w)
  go_enter func157,ntmps157
  go_wp2_with fail
  refine(c1.o _ c.o).mono ?_;rintro e p⟨rfl,hb⟩;have g:=qh hb;have d:=qh<|Ag c.o hb;clear hb;have o:=cell_kept g.o 2;go_wp2;go_ret2;exact⟨rfl,d.o⟩
 ·change Calls _ _ _ _ (PairEnd (a,0) w)
  go_enter func157,ntmps157
  go_wp2_with fail
  refine(c1.o _ c.o).mono ?_;rintro e p⟨rfl,hb⟩;have g:=qh hb;have d:=qh<|Ag c.o hb;clear hb;have o:=cell_kept g.o 2;go_wp2;go_ret2;exact⟨rfl,d.o⟩
 change Calls _ _ _ _ (PairEnd (a,0) w)
 go_enter func157,ntmps157
 go_wp2_with fail
 refine(c1.o _ c.o).mono ?_;rintro e p⟨rfl,hb⟩;have g:=qh hb;have d:=qh<|Ag c.o hb;clear hb;have o:=cell_kept g.o 2;go_wp2;go_ret2;exact⟨rfl,d.o⟩
def Zu(v u:V)(w:World)(i:fitV v)(g:fitV u)(lv:v≠.low)(lu:u≠.low)(j:Tab w):Calls prog 161 #[.agg ring2,.string (vtxt v),.string (vtxt u)] w (PairEnd (limV (As 2 v u)) w):=by
 have c:Below w.heap.size w (w.alloc (.cells ring2 123)):=blr.alloc nlr _;rw[Cc];cases v with
 |low=>exact absurd rfl lv
 |inf =>
  have d:limV (addV .inf u)=(infS,0):=by cases u<;>rfl
  rw[d];have o:((vtxt .inf).toList==[105,110,102])=true:=by show (infS.toList==_)=_;rw[Ck];rfl
  generalize vtxt .inf=a at *;generalize vtxt u=b at *;replace c:=qh c;clear i g lv lu j d;unfold ring2 at c ⊢;unfold infS
  go_enter func161,ntmps161
  go_wp2;go_ret2;exact⟨rfl,c.o⟩
 |fin x =>
  have o:((vtxt (.fin x)).toList==[105,110,102])=false:=GI i;cases u with
  |low=>exact absurd rfl lu
  |inf =>
   have d:limV (addV (.fin x) .inf)=(infS,0):=rfl;rw[d];have p:((vtxt .inf).toList==[105,110,102])=true:=by show (infS.toList==_)=_;rw[Ck];rfl
   generalize vtxt .inf=b at *;generalize vtxt (.fin x)=a at *;replace c:=qh c;clear i g lv lu j d;unfold ring2 at c ⊢;unfold infS
   go_enter func161,ntmps161
   go_wp2;go_ret2;exact⟨rfl,c.o⟩
  |fin y =>
   have p:((vtxt (.fin y)).toList==[105,110,102])=false:=GI g;have l:=Di i;have m:=Di g;have c1:=λs (h:Below w.heap.size w s)=>Pf (txt x) (txt y) s (by omega) (by omega) (j.below h nlr);have d:Be (txt x) (txt y)=limV (addV (.fin x) (.fin y)):=by unfold Be;rw[Bm i,Bm g];rfl
   rw[d]at c1;change Calls _ _ #[_,.string (txt x),.string (txt y)] _ _;change ((txt x).toList==_)=_ at o;change ((txt y).toList==_)=_ at p;generalize limV (addV (.fin x) (.fin y))=lr at *;obtain⟨ls,z⟩:=lr;generalize txt x=a at *;generalize txt y=b at *;replace c1:=qh c1;replace c:=qh c;clear i g lv lu j d l m;unfold ring2 at c ⊢
   go_enter func161,ntmps161
   go_wp2_with fail
   refine nxb (c1.o _ c.o) c λA k=>?_;go_wp2;go_ret2;exact⟨rfl,k.o⟩
def VL(v:V)(w:World)(i:fitV v)(h:Tab w):Calls prog 159 #[.string (vtxt v)] w (PairEnd (limV (Av 1 v)) w):=by
 have c1:=GK v (.fin 0) w i Fa h;have g:Av 1 v=if 0<=cmpV v (.fin 0) then .fin 0 else .low:=rfl
 have d:limV (Av 1 v)=(if 0<=cmpV v (.fin 0) then ⟨#[48]⟩ else lowS,0):=by
  rw[g];split
  ·exact(CZ Fa).trans (by rw[Dy])
  rfl
 rw[d];change Calls _ _ #[_,.string (txt 0)] _ _ at c1;rw[Dy]at c1;have k:=EW v (.fin 0);generalize cmpV v (.fin 0)=z at *;replace c1:=qh c1;clear h g d;generalize vtxt v=a at *;clear i;unfold lowS
 rcases k with rfl|rfl|rfl
 ·change Calls _ _ _ _ (PairEnd (⟨#[45,105,110,102]⟩,0) w)
  go_enter func159,ntmps159
  go_wp2_with fail
  refine nxa c1.o λj c=>?_;go_wp2;go_ret2;exact⟨rfl,c.o⟩
 ·change Calls _ _ _ _ (PairEnd (⟨#[48]⟩,0) w)
  go_enter func159,ntmps159
  go_wp2_with fail
  refine nxa c1.o λj c=>?_;go_wp2;go_ret2;exact⟨rfl,c.o⟩
 change Calls _ _ _ _ (PairEnd (⟨#[48]⟩,0) w)
 go_enter func159,ntmps159
 go_wp2_with fail
 refine nxa c1.o λj c=>?_;go_wp2;go_ret2;exact⟨rfl,c.o⟩
def Vl(v:V)(w:World)(i:fitV v)(h:Tab w):Calls prog 166 #[.string (vtxt v)] w (PairEnd (limV (Av 3 v)) w):=by
 have c1:=GK v (.fin 1) w i EZ h;have g:Av 3 v=if cmpV v (.fin 1)<=0 then .fin 1 else .inf:=rfl
 have d:limV (Av 3 v)=(if cmpV v (.fin 1)<=0 then ⟨#[49]⟩ else infS,0):=by
  rw[g];split
  ·exact(CZ EZ).trans (by rw[Em])
  rfl
 rw[d];change Calls _ _ #[_,.string (txt 1)] _ _ at c1;rw[Em]at c1;have k:=EW v (.fin 1);generalize cmpV v (.fin 1)=z at *;replace c1:=qh c1;clear h g d;generalize vtxt v=a at *;clear i;unfold infS
 rcases k with rfl|rfl|rfl
 ·change Calls _ _ _ _ (PairEnd (⟨#[49]⟩,0) w)
  go_enter func166,ntmps166
  go_wp2_with fail
  refine nxa c1.o λj c=>?_;go_wp2;go_ret2;exact⟨rfl,c.o⟩
 ·change Calls _ _ _ _ (PairEnd (⟨#[49]⟩,0) w)
  go_enter func166,ntmps166
  go_wp2_with fail
  refine nxa c1.o λj c=>?_;go_wp2;go_ret2;exact⟨rfl,c.o⟩
 change Calls _ _ _ _ (PairEnd (⟨#[105,110,102]⟩,0) w)
 go_enter func166,ntmps166
 go_wp2_with fail
 refine nxa c1.o λj c=>?_;go_wp2;go_ret2;exact⟨rfl,c.o⟩
def Nw{x:Rat}(m:fitQ x)(k:0<=x)(l:x<1):fitQ (1-x):=by
 have c:=FT.1 m;rw[FT,Rat.sub_def'];obtain⟨g,h⟩:=Wj (n:=(1:Rat).num*x.den-x.num*(1:Rat).den) (d:=(1:Rat).den*x.den) (Nat.mul_ne_zero (by decide) x.den_nz);have p:0<=x.num:=Rat.num_nonneg.2 k;have o:x.num<x.den:=by
  have:=(Rat.lt_iff x 1).1 l
  simpa using this
 have i:((1:Rat).num*x.den-x.num*(1:Rat).den).natAbs<=x.den:=by
  rw[Rat.one_num,Rat.one_den];omega
 have j:(1:Rat).den*x.den=x.den:=by rw[Rat.one_den,Nat.one_mul]
 exact⟨Nat.lt_of_le_of_lt (Nat.le_trans g i) c.2,Nat.lt_of_le_of_lt (Nat.le_trans h (Nat.le_of_eq j)) c.2⟩
def Zt(v:V)(w:World)(i:fitV v)(d:okV 2 v)(j:Tab w):Calls prog 163 #[.string (vtxt v)] w (PairEnd (limV (Av 2 v)) w):=by
 have c1:=GK v (.fin 1) w i EZ j;change Calls _ _ #[_,.string (txt 1)] _ _ at c1;rw[Em]at c1
 rcases AD d (by decide) with rfl|⟨x,rfl,F⟩
 ·have g:limV (Av 2 .inf)=(infS,0):=rfl;have D:cmpV .inf (.fin 1)=1:=rfl;rw[g];rw[D]at c1;have k:=qh c1;clear c1 j i d g D;generalize vtxt .inf=a at *;unfold infS
  go_enter func163,ntmps163
  go_wp2_with fail
  refine nxa k.o λE c=>?_;go_wp2;go_ret2;exact⟨rfl,c.o⟩
 have o:Av 2 (.fin x)=if 0<=cmpQ x 1 then .inf else .fin (1 / (1-x)):=rfl
 have s:cmpV (.fin x) (.fin 1)=cmpQ x 1:=rfl;rw[s]at c1
 rcases BM x 1 with⟨h,e⟩|h
 ·have hf:=Nw i F h;have C:1-x≠0:=Rat.ne_of_gt<|(Rat.lt_iff_sub_pos x 1).1 h;have g:limV (Av 2 (.fin x))=limR (1 / (1-x)):=by rw[o,e];rfl
  have G:=Di i;have H:=Di hf;have c2:=λm (h:Below w.heap.size w m)=>Xy ⟨#[49]⟩ (txt x) m (by decide) (by omega) (j.below h nlr);have c3:=λm (h:Below w.heap.size w m)=>Xx ⟨#[49]⟩ (txt (1-x)) m (by decide) (by omega) (j.below h nlr);have A:Cd ⟨#[49]⟩ (txt x)=(txt (1-x),0):=by unfold Cd;rw[Fs,Bm i];exact CZ hf
  have B:Bq ⟨#[49]⟩ (txt (1-x))=limR (1 / (1-x)):=by unfold Bq;rw[Fs,Bm hf];exact ifn C
  rw[A]at c2;rw[B]at c3;rw[e]at c1;rw[g];change Calls _ _ #[.string (txt x),_] _ _ at c1;change Calls _ _ #[.string (txt x)] _ _;generalize limR (1 / (1-x))=lr at *;obtain⟨ls,I⟩:=lr;generalize txt (1-x)=b at *;generalize txt x=a at *;have k:=qh c1;clear c1;replace c2:=qh c2;replace c3:=qh c3;clear j i d o s h e hf C g G H A B
  go_enter func163,ntmps163
  go_wp2_with fail
  refine nxa k.o λE c=>?_
  go_wp2_with fail
  refine nxb (c2.o _ c.o) c λJ l=>?_
  go_wp2_with fail
  refine nxb (c3.o _ l.o) l λK p=>?_;go_wp2;go_ret2;exact⟨rfl,p.o⟩
 have u:0<=cmpQ x 1:=by rcases h with⟨_,e⟩|⟨_,e⟩<;>rw[e]<;>decide
 have g:limV (Av 2 (.fin x))=(infS,0):=by rw[o,ifp u];rfl
 rw[g];generalize cmpQ x 1=z at *;generalize vtxt (.fin x)=a at *;have k:=qh c1;clear c1 j i d o s h g;unfold infS
 go_enter func163,ntmps163
 go_wp2_with fail
 refine nxa k.o λE c=>?_;go_wp2;go_ret2;exact⟨rfl,c.o⟩
variable{b o z:ByteArray}{v:V}{c w:World}{J N S W f:FuncId}
def z1g(c:k<1\/3<k)(a:ByteArray):vprs k a=none:=by
 cases h:vprs k a with
 |none=>rfl
 |some v=>have:=Dc (Dz.1 h).2;omega
def En(c:k<1\/3<k)(a:ByteArray):Ah k a=false:=by unfold Ah;rw[z1g c];rfl
def z0r(h:wtV k v):k=1\/k=2\/k=3:=by cases v<;>simp only[wtV]at h<;>omega
def z0i(c:k<1\/3<k)(a:ByteArray):Aw k a=false:=by
 unfold Aw;cases rdV a with
 |none=>rfl
 |some v=>show decide (wtV k v)=false;rw[decide_eq_false_iff_not];intro h;have:=z0r h;omega
def Ew(c:k<1\/3<k):Ao k=false:=by unfold Ao;rw[Bool.and_eq_false_iff];simp;omega
def CI(k:Int):k=1\/k=2\/k=3\/(k<1\/3<k):=by omega
def BP(h:Ah k a=true):∃v,vprs k a=some v/\rdV a=some v/\okV k v/\a=vtxt v/\fitV v:=by
 unfold Ah at h;obtain⟨v,d⟩:=Option.isSome_iff_exists.1 h;obtain⟨c,g⟩:=Dz.1 d;exact⟨v,d,c,g,Gs c⟩
def EO(h:Ah k a=false):vprs k a=none:=by
 unfold Ah at h;cases c:vprs k a with
 |none=>rfl
 |some v=>rw[c]at h;simp at h
def Kp(h:Ah k a=false):Am k a b=(⟨#[]⟩,1):=by unfold Am;rw[EO h];rfl
def OU(h:Ah k b=false):Am k a b=(⟨#[]⟩,1):=by unfold Am;rw[EO h];cases vprs k a<;>rfl
def Ls(h:Ah k a=false):Al k a b=(⟨#[]⟩,1):=by unfold Al;rw[EO h];rfl
def QK(h:Ah k b=false):Al k a b=(⟨#[]⟩,1):=by unfold Al;rw[EO h];cases vprs k a<;>rfl
def Lh(h:Ah k a=false):AL k a=(⟨#[]⟩,1):=by unfold AL;rw[EO h];rfl
def SG(h:Ah k a=false):BR k a b=0:=by unfold BR;rw[EO h]
theorem SH(h:Ah k b=false):BR k a b=0:=by unfold BR;rw[EO h];cases vprs k a<;>rfl
theorem RF:Af 1=⟨#[105,110,102]⟩:=rfl
theorem FE:Af 2=⟨#[48]⟩:=Dy
theorem FF:Af 3=⟨#[48]⟩:=Dy
def RG(c:k<1\/3<k):Af k=⟨#[]⟩:=by unfold Af;rw[Ew c];rfl
theorem Gj:oneF 1=⟨#[48]⟩:=Dy
theorem Gk:oneF 2=⟨#[49]⟩:=Em
theorem Gl:oneF 3=⟨#[49]⟩:=Em
def OK(c:k<1\/3<k):oneF k=⟨#[]⟩:=by unfold oneF;rw[Ew c];rfl
def Re(h:fitV v):((vtxt v).toList==[105,110,102])=decide (v=.inf):=by
 cases v with
 |inf=>show (infS.toList==_)=_;rw[Ck];rfl
 |low=>show (lowS.toList==_)=_;rw[Da];rfl
 |fin q=>show ((txt q).toList==_)=_;rw[GI h];rfl
def Rf(h:fitV v):((vtxt v).toList==[45,105,110,102])=decide (v=.low):=by
 cases v with
 |inf=>show (infS.toList==_)=_;rw[Ck];rfl
 |low=>show (lowS.toList==_)=_;rw[Da];rfl
 |fin q=>show ((txt q).toList==_)=_;rw[Lt h];rfl
def Rh(h:fitV v):((vtxt v).toList==[48])=decide (v=.fin 0):=by
 cases v with
 |inf=>show (infS.toList==_)=_;rw[Ck];rfl
 |low=>show (lowS.toList==_)=_;rw[Da];rfl
 |fin q =>
  show ((txt q).toList==_)=_;by_cases c:q=0
  ·subst c;rw[Dy,Lib.toList_data];simp
  rw[decide_eq_false (λe=>c (by injection e))];exact BU (l:=[48]) (λe=>c (z1c h Fa (e.trans Dy.symm)))
def NW:limV (.fin 0)=(⟨#[48]⟩,0):=(CZ Fa).trans (by rw[Dy])
def nx1{P:Program}{c:Array Value}{R:Ending}{Q:Ending->World->Prop}(h:Calls P f c w (λe w'=>e=R/\Below w.heap.size w w'))(k:∀w',Hd (Below w.heap.size w w')->Q R w'):Calls P f c w Q :=
 h.mono λe w' d=>by rw[d.1];exact k w' d.2
def nx2{P:Program}{d:Array Value}{R:Ending}{Q:Ending->World->Prop}(h:Calls P f d w (λe w'=>e=R/\Below w.heap.size w w'))(B:Hd (Below c.heap.size c w))(k:∀w',Hd (Below c.heap.size c w')->Q R w'):Calls P f d w Q :=
 h.mono λe w' g=>by rw[g.1];exact k w' (Below.trans B (g.2.mono (Below.size B)))
def Ef(h:Ao k=false):k<1\/3<k:=by
 rcases CI k with rfl|rfl|rfl|c
 ·cases h
 ·cases h
 ·cases h
 exact c
def EC(h:Ao k=false):Fv k=ring0:=by
 have:=Ef h;unfold Fv;rw[ifn (by omega),ifn (by omega),ifn (by omega)]
def AK(z o:ByteArray)(l:Bool)(P J S N W:FuncId):Array Value:=#[.string z,.string o,.bool l,fv P,fv J,fv S,fv N,fv W]
def EnF(f:FuncId):Prop:=∀args w,(callFunc f args).run prog w=.ok (.enter f args) w
def nmF(k:Int)(a:ByteArray):Bool:=if k=1 then (prs a).isSome else natB a
structure RgK(k:Int)(P J S N W:FuncId):Prop where
 eP:EnF P
 eJ:EnF J
 eS:EnF S
 eN:EnF N
 eW:EnF W
 cN:∀a w,a.size<=9223372036854775807->Tab w->Calls prog N #[.string a] w (BoolE (nmF k a) w)
 cW:∀a w,a.size<=9223372036854775807->Tab w->Calls prog W #[.string a] w (BoolE (Aw k a) w)
 cP:∀a b w,Ah k a=true->Ah k b=true->Tab w->Calls prog P #[.agg (AK (Af k) (oneF k) (decide (k=1)) P J S N W),.string a,.string b] w (PairEnd (Am k a b) w)
 cJ:∀a b w,a.size<=9223372036854775807->b.size<=9223372036854775807->Tab w->Calls prog J #[.string a,.string b] w (PairEnd (if k=1 then Be a b else BV a b) w)
 cS:∀a w,Ah k a=true->Tab w->Calls prog S #[.string a] w (PairEnd (AL k a) w)
def Kq{u:V}(c:vprs k a=some v)(d:vprs k b=some u):Am k a b=limV (As k v u):=by unfold Am;rw[c,d]
theorem EF(h:Ao k=true):∃P J S N W,Fv k=AK (Af k) (oneF k) (decide (k=1)) P J S N W/\RgK k P J S N W:=by
 rcases CI k with rfl|rfl|rfl|B
 ·refine⟨157,158,159,160,160,by rw[Gj];rfl,λc w=>by kernel_rfl,λc w=>by kernel_rfl,λc w=>by kernel_rfl,λc w=>by kernel_rfl,λc w=>by kernel_rfl,
   λa w i d=>Po a w i d,λa w i d=>by rw[z0n];exact Po a w i d,λa b w l s d=>?_,λa b w i hb d=>Pf a b w i hb d,λa w l d=>?_⟩
  ·obtain⟨v,m,_,_,j,g⟩:=BP l;obtain⟨u,z,_,_,o,p⟩:=BP s;rw[Kq m z,j,o,Gj];exact Tl v u w g p d
  obtain⟨v,m,_,_,j,g⟩:=BP l;rw[show AL 1 a=limV (Av 1 v) by unfold AL;rw[m],j];exact VL v w g d
 ·refine⟨161,162,163,164,165,by rw[Gk,FE];rfl,λc w=>by kernel_rfl,λc w=>by kernel_rfl,λc w=>by kernel_rfl,λc w=>by kernel_rfl,λc w=>by kernel_rfl,
   λa w i d=>Ot a w i d,λa w i d=>by rw[Ru (by omega)];exact OY a w i d,λa b w l s d=>?_,λa b w i hb d=>Ph a b w i hb d,λa w l d=>?_⟩
  ·obtain⟨v,m,_,A,j,g⟩:=BP l;obtain⟨u,z,_,C,o,p⟩:=BP s;rw[Kq m z,j,o,Gk,FE];exact Zu v u w g p (Ay A (by decide)) (Ay C (by decide)) d
  obtain⟨v,m,_,A,j,g⟩:=BP l;rw[show AL 2 a=limV (Av 2 v) by unfold AL;rw[m],j];exact Zt v w g A d
 ·refine⟨157,162,166,164,165,by rw[Gl,FF];rfl,λc w=>by kernel_rfl,λc w=>by kernel_rfl,λc w=>by kernel_rfl,λc w=>by kernel_rfl,λc w=>by kernel_rfl,
   λa w i d=>Ot a w i d,λa w i d=>by rw[Ru (by omega)];exact OY a w i d,λa b w l s d=>?_,λa b w i hb d=>Ph a b w i hb d,λa w l d=>?_⟩
  ·obtain⟨v,m,_,_,j,g⟩:=BP l;obtain⟨u,z,_,_,o,p⟩:=BP s;rw[Kq m z,j,o,Gl,FF];exact Tm v u w g p d
  obtain⟨v,m,_,_,j,g⟩:=BP l;rw[show AL 3 a=limV (Av 3 v) by unfold AL;rw[m],j];exact Vl v w g d
 rw[Ew B]at h;cases h
def z0u(i:Ao k=true)(a:ByteArray):Ah k a=((a.toList==[105,110,102])||((a.toList==[45,105,110,102])&&decide (k=1))||nmF k a):=by
 have m:k=1\/k=2\/k=3:=by
  rcases CI k with h|h|h|h
  ·exact .inl h
  ·exact .inr (.inl h)
  ·exact .inr (.inr h)
  rw[Ew h]at i;cases i
 by_cases d:a=infS
 ·rw[d,Rk m,Ck];rfl
 have j:(a.toList==[105,110,102])=false:=BU (l:=[105,110,102]) d;rw[j];unfold nmF;by_cases c:k=1
 ·subst c;by_cases g:a=lowS
  ·rw[g,Da,Rl];rfl
  rw[BU (l:=[45,105,110,102]) g,Ri d g];rfl
 rw[Rj (by omega) d];simp[c]
theorem Bw{w1:World}(h:Below w.heap.size w w1)(B:Hd (Below w1.heap.size w1 c)):Below w.heap.size w c:=h.trans<|Below.mono B h.size
def Fw{P:FuncId}(s:Ao k=true)(i:RgK k P J S N W)(a:ByteArray)(w:World)(p:a.size<=9223372036854775807)(u:Tab w):Calls prog 98 #[.agg (AK z o (decide (k=1)) P J S N W),.string a] w (BoolE (Ah k a) w):=by
 have c:=qh<|show Below w.heap.size w (w.alloc (.cells (AK z o (decide (k=1)) P J S N W) 123)) from blr.alloc nlr _;have C:=qh λA (h:Below w.heap.size w A)=>i.cN a A p (u.below h nlr);have d:=qh<|z0u s a;have j:=i.eN;unfold EnF at j;clear i p u s;unfold AK at c ⊢;generalize decide (k=1)=l,nmF k a=nm,Ah k a=va at *
 go_enter func98,ntmps98
 cases g:(a.toList==[105,110,102])
 rotate_left
 ·go_wp2;go_ret;exact⟨by rw[d.o,g];rfl,c.o⟩
 cases m:(a.toList==[45,105,110,102])<;>cases l
 rotate_right
 ·go_wp2;go_ret;exact⟨by rw[d.o,g,m];rfl,c.o⟩
 all_goals
  rw[g,m]at d
  go_wp2_with fail
  refine nx1 (C.o _ c.o) λD B=>?_;go_wp2;go_ret;exact⟨by rw[d.o];rfl,Bw c.o B⟩
def KP{wk:World}{l:Bool}{P:FuncId}(h:Below (w.alloc (.cells (AK z o l P J S N W) 123)).heap.size (w.alloc (.cells (AK z o l P J S N W) 123)) wk):
  wk.cell? (Ad w.heap.size 0)=some (.string z)/\wk.cell? (Ad w.heap.size 1)=some (.string o)/\wk.cell? (Ad w.heap.size 2)=some (.bool l)/\wk.cell? (Ad w.heap.size 3)=some (fv P)/\wk.cell? (Ad w.heap.size 4)=some (fv J)/\wk.cell? (Ad w.heap.size 5)=some (fv S)/\wk.cell? (Ad w.heap.size 6)=some (fv N)/\wk.cell? (Ad w.heap.size 7)=some (fv W) :=
 ⟨(cell_kept h 0).trans rfl,(cell_kept h 1).trans rfl,(cell_kept h 2).trans rfl,(cell_kept h 3).trans rfl,(cell_kept h 4).trans rfl,(cell_kept h 5).trans rfl,(cell_kept h 6).trans rfl,(cell_kept h 7).trans rfl⟩
def YL(k:Int)(a:ByteArray)(w:World)(s:a.size<=9223372036854775807)(u:Tab w):Calls prog 154 #[.int .i64 k,.string a] w (BoolE (Ah k a) w):=by
 have g:=qh<|Ez k w;cases c:Ao k
 ·rw[En (Ef c)];rw[EC c,c]at g;unfold OfEnd ring0 at g
  go_enter func154,ntmps154
  go_wp2_with fail
  refine nx1 g.o λC d=>?_;go_wp2;go_ret;exact⟨rfl,d.o.alloc d.o.size _⟩
 obtain⟨P,J,S,N,W,p,m⟩:=EF c;rw[p,c]at g;have i:=qh λA (h:Below w.heap.size w A)=>Fw (z:=Af k) (o:=oneF k) c m a A s (u.below h nlr);clear p c m s u;generalize decide (k=1)=l,Af k=z,oneF k=o,Ah k a=va at *;unfold OfEnd AK at g;unfold AK at i
 go_enter func154,ntmps154
 go_wp2_with fail
 refine nx1 g.o λC d=>?_;have j:=qh<|d.o.alloc d.o.size (.cells (AK z o l P J S N W) 123);unfold AK at j;clear d
 go_wp2_with fail
 refine nx2 (i.o _ j.o) j λD B=>?_;go_wp2;go_ret;exact⟨rfl,B.o⟩
def Iv(k:Int)(a:ByteArray)(w:World)(s:a.size<=9223372036854775807)(u:Tab w):Calls prog 75 #[.int .i64 k,.string a] w (BoolE (Aw k a) w):=by
 have d:=qh<|Ez k w;cases g:Ao k
 ·rw[z0i (Ef g)];rw[EC g,g]at d;unfold OfEnd ring0 at d
  go_enter func75,ntmps75
  go_wp2_with fail
  refine nx1 d.o λD c=>?_;go_wp2;go_ret;exact⟨rfl,c.o.alloc c.o.size _⟩
 obtain⟨P,J,S,N,W,p,j⟩:=EF g;rw[p,g]at d;have C:=qh λA (h:Below w.heap.size w A)=>j.cW a A s (u.below h nlr);have m:=j.eW;unfold EnF at m;clear p g j s u;generalize decide (k=1)=l,Af k=z,oneF k=o,Aw k a=va at *;unfold OfEnd AK at d
 go_enter func75,ntmps75
 go_wp2_with fail
 refine nx1 d.o λD c=>?_;have i:=qh<|c.o.alloc c.o.size (.cells (AK z o l P J S N W) 123);unfold AK at i;clear c
 go_wp2_with fail
 refine nx2 (C.o _ i.o) i λE B=>?_;go_wp2;go_ret;exact⟨rfl,B.o⟩
def Gy(k:Int)(w:World):Calls prog 122 #[.int .i64 k] w (StrE (Af k) w):=by
 have d:=qh<|Ez k w;cases g:Ao k
 ·rw[RG (Ef g)];rw[EC g,g]at d;unfold OfEnd ring0 at d
  go_enter func122,ntmps122
  go_wp2_with fail
  refine nx1 d.o λm c=>?_;go_wp2;go_ret;exact⟨rfl,c.o.alloc c.o.size _⟩
 obtain⟨P,J,S,N,W,i,j⟩:=EF g;rw[i,g]at d;clear i g j;generalize decide (k=1)=l,Af k=z,oneF k=o at *;unfold OfEnd AK at d
 go_enter func122,ntmps122
 go_wp2_with fail
 refine nx1 d.o λm c=>?_;have h:=qh<|c.o.alloc c.o.size (.cells (AK z o l P J S N W) 123);unfold AK at h;clear c;go_wp2;go_ret;exact⟨rfl,h.o⟩
def Iu(k:Int)(w:World):Calls prog 60 #[.int .i64 k] w (StrE (oneF k) w):=by
 have d:=qh<|Ez k w;cases g:Ao k
 ·rw[OK (Ef g)];rw[EC g,g]at d;unfold OfEnd ring0 at d
  go_enter func60,ntmps60
  go_wp2_with fail
  refine nx1 d.o λm c=>?_;go_wp2;go_ret;exact⟨rfl,c.o.alloc c.o.size _⟩
 obtain⟨P,J,S,N,W,i,j⟩:=EF g;rw[i,g]at d;clear i g j;generalize decide (k=1)=l,Af k=z,oneF k=o at *;unfold OfEnd AK at d
 go_enter func60,ntmps60
 go_wp2_with fail
 refine nx1 d.o λm c=>?_;have h:=qh<|c.o.alloc c.o.size (.cells (AK z o l P J S N W) 123);unfold AK at h;clear c;go_wp2;go_ret;exact⟨rfl,h.o⟩
def Qc(k:Int)(a b:ByteArray)(w:World)(T:a.size<=9223372036854775807)(hb:b.size<=9223372036854775807)(F:Tab w):Calls prog 153 #[.int .i64 k,.string a,.string b] w (PairEnd (Am k a b) w):=by
 have p:=qh<|Ez k w;cases d:Ao k
 ·rw[Kp (En (Ef d) a)];rw[EC d,d]at p;unfold OfEnd ring0 at p
  go_enter func153,ntmps153
  go_wp2_with fail
  refine nx1 p.o λG m=>?_;go_wp2;go_ret2;exact⟨rfl,m.o.alloc m.o.size _⟩
 obtain⟨P,J,S,N,W,R,C⟩:=EF d;rw[R,d]at p;have s:=qh λg (h:Below w.heap.size w g)=>Fw (z:=Af k) (o:=oneF k) d C a g T (F.below h nlr);have u:=qh λg (h:Below w.heap.size w g)=>Fw (z:=Af k) (o:=oneF k) d C b g hb (F.below h nlr);have I:=qh λh=>Kp (k:=k) (a:=a) (b:=b) h;have K:=qh λh=>OU (k:=k) (a:=a) (b:=b) h;have Q:=qh λg (A:Ah k a=true) (B:Ah k b=true) (h:Below w.heap.size w g)=>C.cP a b g A B (F.below h nlr);have O:=C.eP;unfold EnF at O;clear R d C T hb F;generalize U:decide (k=1)=l,Af k=z,oneF k=o,Am k a b=r at *;replace U:=qh U;unfold AK at Q;unfold AK at s u;unfold OfEnd AK at p
 go_enter func153,ntmps153
 go_wp2_with fail
 refine nx1 p.o λG m=>?_;have i:=qh<|m.o.alloc m.o.size (.cells (AK z o l P J S N W) 123);obtain⟨H,c⟩:=exq<|G.alloc (.cells (AK z o l P J S N W) 123);obtain⟨Y,j⟩:=exq<|G.heap.size;have L:=qh λwk (h:Below H.heap.size H wk)=>KP (w:=G) (wk:=wk) (z:=z) (o:=o) (l:=l) (P:=P) (J:=J) (S:=S) (N:=N) (W:=W) (by rw[<-c];exact h);rw[<-j]at L;rw[<-c]at i;unfold AK at c
 go_wp2_with fail
 rw[<-c,<-j];clear c j m;refine nx1 (s.o _ i.o) λw2 D=>?_;obtain⟨q0,q1,q2,q3,q4,q5,q6,X⟩:=L.o w2 D.o;cases A:Ah k a
 ·go_wp2;go_ret2;exact⟨by rw[I.o A];rfl,Bw i.o D⟩
 go_wp2_with fail
 clear q0 q1 q2 q3 q4 q5 q6 X;refine nx2 (u.o _ (Bw i.o D)) D λw3 E=>?_;obtain⟨q0,q1,q2,q3,q4,q5,q6,X⟩:=L.o w3 E.o;cases B:Ah k b
 ·go_wp2;go_ret2;exact⟨by rw[K.o B];rfl,Bw i.o E⟩
 have H1:=qh A;clear A;have H2:=qh B;clear B
 go_wp2_with fail
 refine nx2 (Q.o _ H1.o H2.o (Bw i.o E)) E λw4 Z=>?_;go_wp2;go_ret2;exact⟨rfl,Bw i.o Z⟩
def index3z(w:World)(z:ByteArray):(Instr.index 126 (.agg #[.string z,.string ⟨#[105,110,102]⟩,.string ⟨#[45,105,110,102]⟩]) (.int .i64 0)).run prog w=.ok (.string z) w/\
  (Instr.index 126 (.agg #[.string z,.string ⟨#[105,110,102]⟩,.string ⟨#[45,105,110,102]⟩]) (.int .i64 1)).run prog w=.ok (.string ⟨#[105,110,102]⟩) w/\
  (Instr.index 126 (.agg #[.string z,.string ⟨#[105,110,102]⟩,.string ⟨#[45,105,110,102]⟩]) (.int .i64 2)).run prog w=.ok (.string ⟨#[45,105,110,102]⟩) w:=⟨by kernel_rfl,by kernel_rfl,by kernel_rfl⟩
def IN(h:Ah k a=true):∃v,vprs k a=some v/\okV k v/\a=vtxt v/\fitV v/\(a.toList==[105,110,102])=decide (v=.inf)/\(a.toList==[45,105,110,102])=decide (v=.low)/\(a.toList==[48])=decide (v=.fin 0)/\(a.toList==(Af k).toList)=decide (v=zeroV k):=by
 obtain⟨v,l,_,j,c,fv⟩:=BP h;have g:(a.toList==[105,110,102])=decide (v=.inf):=by rw[c];exact Re fv
 have d:(a.toList==[48])=decide (v=.fin 0):=by rw[c];exact Rh fv
 refine⟨v,l,j,c,fv,g,by rw[c];exact Rf fv,d,?_⟩
 rcases CI k with rfl|rfl|rfl|i
 ·rw[show (Af 1).toList=[105,110,102] from Ck,show zeroV 1=.inf from rfl];exact g
 ·rw[FE,show (⟨#[48]⟩:ByteArray).toList=[48] by rw[Lib.toList_data],show zeroV 2=.fin 0 from rfl];exact d
 ·rw[FF,show (⟨#[48]⟩:ByteArray).toList=[48] by rw[Lib.toList_data],show zeroV 3=.fin 0 from rfl];exact d
 rw[En i]at h;cases h
def QJ(g:Ah k a=true)(C:Ah k b=true):Al k a b=bif (a.toList==(Af k).toList)||(b.toList==(Af k).toList) then (Af k,0) else bif (a.toList==[105,110,102])||(b.toList==[105,110,102]) then (⟨#[105,110,102]⟩,0) else
  bif (a.toList==[45,105,110,102])||(b.toList==[45,105,110,102]) then (⟨#[45,105,110,102]⟩,0) else (if k=1 then Be a b else BV a b):=by
 obtain⟨v,G,I,i,fv,o,p,_,s⟩:=IN g;obtain⟨u,F,H,j,l,z,A,_,B⟩:=IN C;rw[o,p,s,z,A,B];have E:Al k a b=limV (Aj k v u):=by unfold Al;rw[G,F]
 have m:limV (zeroV k)=(Af k,0):=by
  rcases CI k with rfl|rfl|rfl|D
  ·rfl
  ·rw[FE];exact NW
  ·rw[FF];exact NW
  rw[En D]at g;cases g
 rw[E];unfold Aj;by_cases d:v=zeroV k
 ·rw[ifp (.inl d),m];simp[d]
 by_cases c:u=zeroV k
 ·rw[ifp (.inr c),m];simp[c]
 rw[ifn (by rintro(h|h);exact d h;exact c h)]
 simp only[d,c,decide_false,Bool.or_false,cond_false];cases v with
 |inf=>rfl
 |low=>cases u<;>rfl
 |fin x =>
  cases u with
  |inf=>rfl
  |low=>rfl
  |fin y =>
   simp only[show (V.fin x=V.inf)=False by simp,show (V.fin y=V.inf)=False by simp,show (V.fin x=V.low)=False by simp,show (V.fin y=V.low)=False by simp,decide_false,Bool.or_false,cond_false]
   split
   ·rw[i,j];show limR (x+y)=Be (txt x) (txt y);unfold Be;rw[Bm fv,Bm l]
   rw[i,j];show limR (x*y)=BV (txt x) (txt y);unfold BV;rw[Bm fv,Bm l]
theorem Ld(k:Int)(a b:ByteArray)(w:World)(Z:a.size<=9223372036854775807)(hb:b.size<=9223372036854775807)(Q:Tab w):Calls prog 44 #[.int .i64 k,.string a,.string b] w (PairEnd (Al k a b) w):=by
 have A:=qh<|Ez k w;cases m:Ao k
 ·rw[Ls (En (Ef m) a)];rw[EC m,m]at A;unfold OfEnd ring0 at A
  go_enter func44,ntmps44
  go_wp2_with fail
  refine nx1 A.o λR u=>?_;go_wp2;go_ret2;exact⟨rfl,u.o.alloc u.o.size _⟩
 obtain⟨P,J,S,N,W,hV,K⟩:=EF m;rw[hV,m]at A;have E:=qh λc (h:Below w.heap.size w c)=>Fw (z:=Af k) (o:=oneF k) m K a c Z (Q.below h nlr);have F:=qh λc (h:Below w.heap.size w c)=>Fw (z:=Af k) (o:=oneF k) m K b c hb (Q.below h nlr);have C:=qh λh=>Ls (k:=k) (a:=a) (b:=b) h;have D:=qh λh=>QK (k:=k) (a:=a) (b:=b) h;have HC:=qh λH I=>QJ (k:=k) (a:=a) (b:=b) H I;have HJ:=qh λc (h:Below w.heap.size w c)=>K.cJ a b c Z hb (Q.below h nlr);have X:=qh λc=>index3z c (Af k);generalize (if k=1 then Be a b else BV a b)=q at *
 obtain⟨qa,qb⟩:=q;have a1:=K.eJ;unfold EnF at a1;clear hV m K Z hb Q;generalize hl:decide (k=1)=l,Af k=z,oneF k=o,Al k a b=r at *;replace hl:=qh hl;unfold AK at E F;unfold OfEnd AK at A
 go_enter func44,ntmps44
 go_wp2_with fail
 refine nx1 A.o λR u=>?_;have d:=qh<|u.o.alloc u.o.size (.cells (AK z o l P J S N W) 123);obtain⟨T,g⟩:=exq<|R.alloc (.cells (AK z o l P J S N W) 123);obtain⟨rb,s⟩:=exq<|R.heap.size;have U:=qh λwk (h:Below T.heap.size T wk)=>KP (w:=R) (wk:=wk) (z:=z) (o:=o) (l:=l) (P:=P) (J:=J) (S:=S) (N:=N) (W:=W) (by rw[<-g];exact h);rw[<-s]at U;rw[<-g]at d;unfold AK at g
 go_wp2_with fail
 rw[<-g,<-s];clear g s u;refine nx1 (E.o _ d.o) λw2 L=>?_;obtain⟨q0,q1,q2,q3,q4,q5,q6,q7⟩:=U.o w2 L.o;cases H:Ah k a
 ·go_wp2;go_ret2;exact⟨by rw[C.o H];rfl,Bw d.o L⟩
 go_wp2_with fail
 clear q0 q1 q2 q3 q4 q5 q6 q7;refine nx2 (F.o _ (Bw d.o L)) L λw3 i=>?_;obtain⟨q0,q1,q2,q3,q4,q5,q6,q7⟩:=U.o w3 i.o;cases I:Ah k b
 ·go_wp2;go_ret2;exact⟨by rw[D.o I];rfl,Bw d.o i⟩
 have H1:=qh H;clear H;have H2:=qh I;clear I;have j:=qh<|HC.o H1.o H2.o;clear HC C D H1 H2;have x0:=λc=>(X.o c).1;have x1:=λc=>(X.o c).2.1;have x2:=λc=>(X.o c).2.2
 go_wp2_with fail
 cases p:(a.toList==z.toList)
 rotate_left
 ·refine wp_loop_rounds 4 ?_;rw[rounds_succ];go_wp2;go_ret2;exact⟨by rw[j.o,p];rfl,Bw d.o i⟩
 cases B:(b.toList==z.toList)
 rotate_left
 ·refine wp_loop_rounds 4 ?_;rw[rounds_succ];go_wp2;go_ret2;exact⟨by rw[j.o,p,B];rfl,Bw d.o i⟩
 cases G:(a.toList==[105,110,102])
 rotate_left
 ·refine wp_loop_rounds 4 ?_;rw[rounds_succ];go_wp2_with fail;rw[rounds_succ];go_wp2;go_ret2;exact⟨by rw[j.o,p,B,G];rfl,Bw d.o i⟩
 cases O:(b.toList==[105,110,102])
 rotate_left
 ·refine wp_loop_rounds 4 ?_;rw[rounds_succ];go_wp2_with fail;rw[rounds_succ];go_wp2;go_ret2;exact⟨by rw[j.o,p,B,G,O];rfl,Bw d.o i⟩
 cases Y:(a.toList==[45,105,110,102])
 rotate_left
 ·refine wp_loop_rounds 4 ?_;rw[rounds_succ];go_wp2_with fail;rw[rounds_succ];go_wp2_with fail;rw[rounds_succ];go_wp2;go_ret2;exact⟨by rw[j.o,p,B,G,O,Y];rfl,Bw d.o i⟩
 cases e6:(b.toList==[45,105,110,102])
 rotate_left
 ·refine wp_loop_rounds 4 ?_;rw[rounds_succ];go_wp2_with fail;rw[rounds_succ];go_wp2_with fail;rw[rounds_succ];go_wp2;go_ret2;exact⟨by rw[j.o,p,B,G,O,Y,e6];rfl,Bw d.o i⟩
 rw[p,B,G,O,Y,e6]at j;refine wp_loop_rounds 4 ?_;rw[rounds_succ];go_wp2_with fail;rw[rounds_succ];go_wp2_with fail;rw[rounds_succ];go_wp2_with fail;rw[rounds_succ];go_wp2_with fail;refine nx2 (HJ.o _ (Bw d.o i)) i λw4 B4=>?_;go_wp2;go_ret2;exact⟨by rw[j.o];rfl,Bw d.o B4⟩
def YK(k:Int)(a:ByteArray)(w:World)(K:a.size<=9223372036854775807)(G:Tab w):Calls prog 216 #[.int .i64 k,.string a] w (PairEnd (AL k a) w):=by
 have j:=qh<|Ez k w;cases d:Ao k
 ·rw[Lh (En (Ef d) a)];rw[EC d,d]at j;unfold OfEnd ring0 at j
  go_enter func216,ntmps216
  go_wp2_with fail
  refine nx1 j.o λC i=>?_;go_wp2;go_ret2;exact⟨rfl,i.o.alloc i.o.size _⟩
 obtain⟨P,J,S,N,W,I,B⟩:=EF d;rw[I,d]at j;have p:=qh λu (h:Below w.heap.size w u)=>Fw (z:=Af k) (o:=oneF k) d B a u K (G.below h nlr);have E:=qh λh=>Lh (k:=k) (a:=a) h;have R:=qh λu (s:Ah k a=true) (h:Below w.heap.size w u)=>B.cS a u s (G.below h nlr);have F:=B.eS;unfold EnF at F;clear I d B K G;generalize decide (k=1)=l,Af k=z,oneF k=o,AL k a=r at *;unfold AK at p;unfold OfEnd AK at j
 go_enter func216,ntmps216
 go_wp2_with fail
 refine nx1 j.o λC i=>?_;have m:=qh<|i.o.alloc i.o.size (.cells (AK z o l P J S N W) 123);obtain⟨D,c⟩:=exq<|C.alloc (.cells (AK z o l P J S N W) 123);obtain⟨L,g⟩:=exq<|C.heap.size;have H:=qh λwk (h:Below D.heap.size D wk)=>KP (w:=C) (wk:=wk) (z:=z) (o:=o) (l:=l) (P:=P) (J:=J) (S:=S) (N:=N) (W:=W) (by rw[<-c];exact h);rw[<-g]at H;rw[<-c]at m;unfold AK at c
 go_wp2_with fail
 rw[<-c,<-g];clear c g i;refine nx1 (p.o _ m.o) λT A=>?_;obtain⟨q0,q1,q2,q3,q4,q5,q6,U⟩:=H.o T A.o;cases s:Ah k a
 ·go_wp2;go_ret2;exact⟨by rw[E.o s];rfl,Bw m.o A⟩
 have Q:=qh s;clear s
 go_wp2_with fail
 refine nx2 (R.o _ Q.o (Bw m.o A)) A λX O=>?_;go_wp2;go_ret2;exact⟨rfl,Bw m.o O⟩

def Hs(v:V):(limV v).1.size<=802:=by
 cases v with
 |inf=>show 3<=802;omega
 |low=>show 4<=802;omega
 |fin q=>exact NT q
def Je:argS.1.size<=802:=by show 0<=802;omega
def OV(k:Int)(a b:ByteArray):(Am k a b).1.size<=802:=by unfold Am;split<;>first|exact Hs _|exact Je
def QL(k:Int)(a b:ByteArray):(Al k a b).1.size<=802:=by unfold Al;split<;>first|exact Hs _|exact Je
def Qq(k:Int)(a:ByteArray):(AL k a).1.size<=802:=by unfold AL;split<;>first|exact Hs _|exact Je
def GM(k:Int):(Af k).size<=100000:=by
 rcases CI k with rfl|rfl|rfl|c
 ·rw[RF];decide
 ·rw[FE];decide
 ·rw[FF];decide
 rw[RG c];decide
def WW(k:Int):(oneF k).size<=100000:=by
 rcases CI k with rfl|rfl|rfl|c
 ·rw[Gj];decide
 ·rw[Gk];decide
 ·rw[Gl];decide
 rw[OK c];decide
end
end Go.Proofs.YteappjogmnogcaaGreatDoor
