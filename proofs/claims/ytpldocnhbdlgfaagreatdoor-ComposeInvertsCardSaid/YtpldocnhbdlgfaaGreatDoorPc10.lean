/- Parts. -/
import Derived.Test.YtpldocnhbdlgfaaGreatDoorPc09
import Derived.Handy
import Derived.Deep.DrawnRows
namespace Go.Proofs.YtpldocnhbdlgfaaGreatDoor
set_option maxRecDepth 100000
set_option linter.all false
set_option maxHeartbeats 16000000
open Go Tryz
section
open Go.RowKit
def PT:Ending:=.panicked [{ v:=.iface 209 (.agg #[]),recovered:=false }]
def QEnd(q:Rat)(w:World)(e:Ending)(w':World):Prop:=e=(if fitQ q then .returned (nv q) else PT)/\Below w.heap.size w w'
def res3{w wk:World}{a b c:Value}{t:TypeId}(h:Below (w.alloc (.cells #[a,b,c] t)).heap.size (w.alloc (.cells #[a,b,c] t)) wk):
  wk.cell? (Ad w.heap.size 0)=some a/\wk.cell? (Ad w.heap.size 1)=some b/\wk.cell? (Ad w.heap.size 2)=some c/\wk.frozen? (Ad w.heap.size 0)=false/\wk.frozen? (Ad w.heap.size 1)=false/\wk.frozen? (Ad w.heap.size 2)=false/\w.heap.size<wk.heap.size:=by
 have g:=h.size;have d:w.heap.size<(w.alloc (.cells #[a,b,c] t)).heap.size:=by simp
 refine⟨?_,?_,?_,?_,?_,?_,by omega⟩
 ·exact(h.cell (p:=(Ad w.heap.size 0)) d).trans (by simp)
 ·exact(h.cell (p:=(Ad w.heap.size 1)) d).trans (by simp)
 ·exact(h.cell (p:=(Ad w.heap.size 2)) d).trans (by simp)
 ·exact(h.frozen (p:=(Ad w.heap.size 0)) d).trans (by simp)
 ·exact(h.frozen (p:=(Ad w.heap.size 1)) d).trans (by simp)
 exact(h.frozen (p:=(Ad w.heap.size 2)) d).trans (by simp)
def set3{w:World}{n:Nat}{a b c a' b' c':Value}(k0:w.cell? (Ad n 0)=some a)(k1:w.cell? (Ad n 1)=some b)(k2:w.cell? (Ad n 2)=some c):
  (((w.setCell (Ad n 0) a').setCell (Ad n 1) b').setCell (Ad n 2) c').cell? (Ad n 0)=some a'/\(((w.setCell (Ad n 0) a').setCell (Ad n 1) b').setCell (Ad n 2) c').cell? (Ad n 1)=some b'/\(((w.setCell (Ad n 0) a').setCell (Ad n 1) b').setCell (Ad n 2) c').cell? (Ad n 2)=some c':=by
 refine⟨?_,?_,?_⟩<;>simp[go_sem,k0,k1,k2]
theorem DZ{fn:Func}{p:Tmp}(h:fn.results=#[.cell p 180])(c:Array Value)(W:World)(n:Nat)(r:Bool)(x y:ByteArray)
  (g:c.getD p undef=.pointer (some (Ad n 0))) (c0:W.cell? (Ad n 0)=some (.bool r)) (c1:W.cell? (Ad n 1)=some (.string x)) (c2:W.cell? (Ad n 2)=some (.string y)) :
  (results fn c).run prog W=.ok (.agg #[.bool r,.string x,.string y]) W:=by
 have d:c[p]?.getD undef=.pointer (some (Ad n 0)):=by rw[<-g];simp
 simp only[results,h];simp[d,go_sem,c0,c1,c2]
theorem VO(s:Bool)(a b g x y:ByteArray)(r:Bool)(w:World)(Q:(s=false/\r=false)\/(s=true/\(a.toList==[48])=!r))
  (G:x.size<=1000) (H:y.size<=1000)
  (c1:∀wx,Below w.heap.size w wx->Calls prog 197 #[.string a,.string b] wx (StrZ g wx))
  (c2:∀wx,Below w.heap.size w wx->Calls prog 212 #[.string a,.string g] wx (StrE x wx))
  (c3:∀wx,Below w.heap.size w wx->Calls prog 212 #[.string b,.string g] wx (StrE y wx)) :
  Calls prog 180 #[.bool s,.string a,.string b] w λe w' =>
   e=(if x.size<=400/\y.size<=400 then .returned (nvS r x y) else PT)/\Below w.heap.size w w':=by
 replace c1:=qh c1;replace c2:=qh c2;replace c3:=qh c3;have l:Below w.heap.size w (w.alloc (.cells #[.bool false,.string ⟨#[]⟩,.string ⟨#[]⟩] 180)):=blr.alloc nlr _;replace l:=qh l;have D:(x.size<=400/\y.size<=400)\/(x.size<=400/\400<y.size)\/400<x.size:=by omega
 unfold PT nvS
 rcases Q with⟨rfl,rfl⟩|⟨rfl,R⟩
 ·
  rcases D with⟨A,E⟩|⟨A,E⟩|A
  ·rw[ifp ⟨A,E⟩];have L:(x.size:Int)<=400:=by omega
   have P:(y.size:Int)<=400:=by omega
   clear A E;clear G H
   go_enter func180,ntmps180
   go_wp2_with fail
   refine(c1.o _ l.o).mono ?_;rintro e N⟨rfl,i⟩;have o:=qh i;have c:=qh<|l.o.trans (i.mono l.o.size);clear i
   go_wp2_with fail
   refine(AY _ _).mono ?_;rintro e C⟨rfl,rfl⟩
   go_wp2_with fail
   refine(c2.o _ c.o).mono ?_;rintro e C⟨rfl,j⟩;have p:=qh<|o.o.trans (j.mono o.o.size);have d:=qh<|c.o.trans (j.mono c.o.size);clear j
   go_wp2_with fail
   refine(c3.o _ d.o).mono ?_;rintro e O⟨rfl,k⟩;have u:=qh<|p.o.trans (k.mono p.o.size);have m:=qh<|d.o.trans (k.mono d.o.size);clear k;obtain⟨F,k1,k2,I,J,K,z⟩:=res3 u.o;have B:=qh m.o.size
   go_wp2_with fail
   obtain⟨s0,s1,s2⟩:=set3 (a':=.bool false) (b':=.string x) (c':=.string y) F k1 k2;refine bodyPost_ret (DZ rfl _ _ w.heap.size false x y rfl ?_ ?_ ?_) rfl ⟨rfl,?_⟩
   ·rw[World.cell?_alloc_past (hn:=by simpa using z)];exact s0
   ·rw[World.cell?_alloc_past (hn:=by simpa using z)];exact s1
   ·rw[World.cell?_alloc_past (hn:=by simpa using z)];exact s2
   exact(((m.o.setCell nlr _).setCell nlr _).setCell nlr _).alloc (by simpa using B.o) _
  ·rw[ifn (λh=>by omega)];have L:(x.size:Int)<=400:=by omega
   have P:(400:Int)<(y.size:Int):=by omega
   clear A E;clear G H
   go_enter func180,ntmps180
   go_wp2_with fail
   refine(c1.o _ l.o).mono ?_;rintro e N⟨rfl,i⟩;have o:=qh i;have c:=qh<|l.o.trans (i.mono l.o.size);clear i
   go_wp2_with fail
   refine(AY _ _).mono ?_;rintro e C⟨rfl,rfl⟩
   go_wp2_with fail
   refine(c2.o _ c.o).mono ?_;rintro e C⟨rfl,j⟩;have p:=qh<|o.o.trans (j.mono o.o.size);have d:=qh<|c.o.trans (j.mono c.o.size);clear j
   go_wp2_with fail
   refine(c3.o _ d.o).mono ?_;rintro e O⟨rfl,k⟩;have u:=qh<|p.o.trans (k.mono p.o.size);have m:=qh<|d.o.trans (k.mono d.o.size);clear k;obtain⟨F,k1,k2,I,J,K,z⟩:=res3 u.o;have B:=qh m.o.size
   go_wp2_with fail
   exact⟨rfl,rfl,m.o.alloc B.o _⟩
  rw[ifn (λh=>by omega)];have L:(400:Int)<(x.size:Int):=by omega
  clear A;clear G H
  go_enter func180,ntmps180
  go_wp2_with fail
  refine(c1.o _ l.o).mono ?_;rintro e N⟨rfl,i⟩;have o:=qh i;have c:=qh<|l.o.trans (i.mono l.o.size);clear i
  go_wp2_with fail
  refine(AY _ _).mono ?_;rintro e C⟨rfl,rfl⟩
  go_wp2_with fail
  refine(c2.o _ c.o).mono ?_;rintro e C⟨rfl,j⟩;have p:=qh<|o.o.trans (j.mono o.o.size);have d:=qh<|c.o.trans (j.mono c.o.size);clear j
  go_wp2_with fail
  refine(c3.o _ d.o).mono ?_;rintro e O⟨rfl,k⟩;have u:=qh<|p.o.trans (k.mono p.o.size);have m:=qh<|d.o.trans (k.mono d.o.size);clear k;obtain⟨F,k1,k2,I,J,K,z⟩:=res3 u.o;have B:=qh m.o.size
  go_wp2_with fail
  exact⟨rfl,rfl,m.o.alloc B.o _⟩
 cases r<;>simp only[Bool.not_true,Bool.not_false]at R
 ·
  rcases D with⟨A,E⟩|⟨A,E⟩|A
  ·rw[ifp ⟨A,E⟩];have L:(x.size:Int)<=400:=by omega
   have P:(y.size:Int)<=400:=by omega
   clear A E;clear G H
   go_enter func180,ntmps180
   go_wp2_with fail
   refine(c1.o _ l.o).mono ?_;rintro e N⟨rfl,i⟩;have o:=qh i;have c:=qh<|l.o.trans (i.mono l.o.size);clear i
   go_wp2_with fail
   refine(AY _ _).mono ?_;rintro e C⟨rfl,rfl⟩
   go_wp2_with fail
   refine(c2.o _ c.o).mono ?_;rintro e C⟨rfl,j⟩;have p:=qh<|o.o.trans (j.mono o.o.size);have d:=qh<|c.o.trans (j.mono c.o.size);clear j
   go_wp2_with fail
   refine(c3.o _ d.o).mono ?_;rintro e O⟨rfl,k⟩;have u:=qh<|p.o.trans (k.mono p.o.size);have m:=qh<|d.o.trans (k.mono d.o.size);clear k;obtain⟨F,k1,k2,I,J,K,z⟩:=res3 u.o;have B:=qh m.o.size
   go_wp2_with fail
   obtain⟨s0,s1,s2⟩:=set3 (a':=.bool false) (b':=.string x) (c':=.string y) F k1 k2;refine bodyPost_ret (DZ rfl _ _ w.heap.size false x y rfl ?_ ?_ ?_) rfl ⟨rfl,?_⟩
   ·rw[World.cell?_alloc_past (hn:=by simpa using z)];exact s0
   ·rw[World.cell?_alloc_past (hn:=by simpa using z)];exact s1
   ·rw[World.cell?_alloc_past (hn:=by simpa using z)];exact s2
   exact(((m.o.setCell nlr _).setCell nlr _).setCell nlr _).alloc (by simpa using B.o) _
  ·rw[ifn (λh=>by omega)];have L:(x.size:Int)<=400:=by omega
   have P:(400:Int)<(y.size:Int):=by omega
   clear A E;clear G H
   go_enter func180,ntmps180
   go_wp2_with fail
   refine(c1.o _ l.o).mono ?_;rintro e N⟨rfl,i⟩;have o:=qh i;have c:=qh<|l.o.trans (i.mono l.o.size);clear i
   go_wp2_with fail
   refine(AY _ _).mono ?_;rintro e C⟨rfl,rfl⟩
   go_wp2_with fail
   refine(c2.o _ c.o).mono ?_;rintro e C⟨rfl,j⟩;have p:=qh<|o.o.trans (j.mono o.o.size);have d:=qh<|c.o.trans (j.mono c.o.size);clear j
   go_wp2_with fail
   refine(c3.o _ d.o).mono ?_;rintro e O⟨rfl,k⟩;have u:=qh<|p.o.trans (k.mono p.o.size);have m:=qh<|d.o.trans (k.mono d.o.size);clear k;obtain⟨F,k1,k2,I,J,K,z⟩:=res3 u.o;have B:=qh m.o.size
   go_wp2_with fail
   exact⟨rfl,rfl,m.o.alloc B.o _⟩
  rw[ifn (λh=>by omega)];have L:(400:Int)<(x.size:Int):=by omega
  clear A;clear G H
  go_enter func180,ntmps180
  go_wp2_with fail
  refine(c1.o _ l.o).mono ?_;rintro e N⟨rfl,i⟩;have o:=qh i;have c:=qh<|l.o.trans (i.mono l.o.size);clear i
  go_wp2_with fail
  refine(AY _ _).mono ?_;rintro e C⟨rfl,rfl⟩
  go_wp2_with fail
  refine(c2.o _ c.o).mono ?_;rintro e C⟨rfl,j⟩;have p:=qh<|o.o.trans (j.mono o.o.size);have d:=qh<|c.o.trans (j.mono c.o.size);clear j
  go_wp2_with fail
  refine(c3.o _ d.o).mono ?_;rintro e O⟨rfl,k⟩;have u:=qh<|p.o.trans (k.mono p.o.size);have m:=qh<|d.o.trans (k.mono d.o.size);clear k;obtain⟨F,k1,k2,I,J,K,z⟩:=res3 u.o;have B:=qh m.o.size
  go_wp2_with fail
  exact⟨rfl,rfl,m.o.alloc B.o _⟩
 rcases D with⟨A,E⟩|⟨A,E⟩|A
 ·rw[ifp ⟨A,E⟩];have L:(x.size:Int)<=400:=by omega
  have P:(y.size:Int)<=400:=by omega
  clear A E;clear G H
  go_enter func180,ntmps180
  go_wp2_with fail
  refine(c1.o _ l.o).mono ?_;rintro e N⟨rfl,i⟩;have o:=qh i;have c:=qh<|l.o.trans (i.mono l.o.size);clear i
  go_wp2_with fail
  refine(AY _ _).mono ?_;rintro e C⟨rfl,rfl⟩
  go_wp2_with fail
  refine(c2.o _ c.o).mono ?_;rintro e C⟨rfl,j⟩;have p:=qh<|o.o.trans (j.mono o.o.size);have d:=qh<|c.o.trans (j.mono c.o.size);clear j
  go_wp2_with fail
  refine(c3.o _ d.o).mono ?_;rintro e O⟨rfl,k⟩;have u:=qh<|p.o.trans (k.mono p.o.size);have m:=qh<|d.o.trans (k.mono d.o.size);clear k;obtain⟨F,k1,k2,I,J,K,z⟩:=res3 u.o;have B:=qh m.o.size
  go_wp2_with fail
  obtain⟨s0,s1,s2⟩:=set3 (a':=.bool true) (b':=.string x) (c':=.string y) F k1 k2;refine bodyPost_ret (DZ rfl _ _ w.heap.size true x y rfl ?_ ?_ ?_) rfl ⟨rfl,?_⟩
  ·rw[World.cell?_alloc_past (hn:=by simpa using z)];exact s0
  ·rw[World.cell?_alloc_past (hn:=by simpa using z)];exact s1
  ·rw[World.cell?_alloc_past (hn:=by simpa using z)];exact s2
  exact(((m.o.setCell nlr _).setCell nlr _).setCell nlr _).alloc (by simpa using B.o) _
 ·rw[ifn (λh=>by omega)];have L:(x.size:Int)<=400:=by omega
  have P:(400:Int)<(y.size:Int):=by omega
  clear A E;clear G H
  go_enter func180,ntmps180
  go_wp2_with fail
  refine(c1.o _ l.o).mono ?_;rintro e N⟨rfl,i⟩;have o:=qh i;have c:=qh<|l.o.trans (i.mono l.o.size);clear i
  go_wp2_with fail
  refine(AY _ _).mono ?_;rintro e C⟨rfl,rfl⟩
  go_wp2_with fail
  refine(c2.o _ c.o).mono ?_;rintro e C⟨rfl,j⟩;have p:=qh<|o.o.trans (j.mono o.o.size);have d:=qh<|c.o.trans (j.mono c.o.size);clear j
  go_wp2_with fail
  refine(c3.o _ d.o).mono ?_;rintro e O⟨rfl,k⟩;have u:=qh<|p.o.trans (k.mono p.o.size);have m:=qh<|d.o.trans (k.mono d.o.size);clear k;obtain⟨F,k1,k2,I,J,K,z⟩:=res3 u.o;have B:=qh m.o.size
  go_wp2_with fail
  exact⟨rfl,rfl,m.o.alloc B.o _⟩
 rw[ifn (λh=>by omega)];have L:(400:Int)<(x.size:Int):=by omega
 clear A;clear G H
 go_enter func180,ntmps180
 go_wp2_with fail
 refine(c1.o _ l.o).mono ?_;rintro e N⟨rfl,i⟩;have o:=qh i;have c:=qh<|l.o.trans (i.mono l.o.size);clear i
 go_wp2_with fail
 refine(AY _ _).mono ?_;rintro e C⟨rfl,rfl⟩
 go_wp2_with fail
 refine(c2.o _ c.o).mono ?_;rintro e C⟨rfl,j⟩;have p:=qh<|o.o.trans (j.mono o.o.size);have d:=qh<|c.o.trans (j.mono c.o.size);clear j
 go_wp2_with fail
 refine(c3.o _ d.o).mono ?_;rintro e O⟨rfl,k⟩;have u:=qh<|p.o.trans (k.mono p.o.size);have m:=qh<|d.o.trans (k.mono d.o.size);clear k;obtain⟨F,k1,k2,I,J,K,z⟩:=res3 u.o;have B:=qh m.o.size
 go_wp2_with fail
 exact⟨rfl,rfl,m.o.alloc B.o _⟩
def Hr(s:Bool)(m d:Nat)(w:World)(p:fits m)(hd:fits d)(k:d≠0)(F:Tab w):
  Calls prog 180 #[.bool s,.string (str (dec m)),.string (str (dec d))] w (QEnd (mkRat (sg s m) d) w):=by
 obtain⟨i,j,A⟩:=Nb (sg s m) d k;rw[HA]at i j;have z:fits (Nat.gcd m d):=Cd hd (Nat.le_of_dvd (Nat.pos_of_ne_zero k) (Nat.gcd_dvd_right _ _));have g:Nat.gcd m d≠0:=by have:=Nat.gcd_pos_of_pos_right m (Nat.pos_of_ne_zero k);omega
 have o:∀c,Below w.heap.size w c->Tab c:=λc h=>F.below h nlr;have B:fits (m / Nat.gcd m d):=Cd p (Nat.div_le_self _ _);have C:fits (d / Nat.gcd m d):=Cd hd (Nat.div_le_self _ _);have D:=VO s (str (dec m)) (str (dec d)) (str (dec (Nat.gcd m d))) (str (dec (m / Nat.gcd m d))) (str (dec (d / Nat.gcd m d))) (negQ (mkRat (sg s m) d)) w ?_ ?_ ?_
  (λc h=>Nm m d c p hd (o c h)) (λc h=>NS m _ c p z g (o c h)) (λc h=>NS d _ c hd z g (o c h))
 ·refine D.mono ?_;rintro e G⟨rfl,hb⟩;refine⟨?_,hb⟩;have hf:fitQ (mkRat (sg s m) d)↔((str (dec (m / Nat.gcd m d))).size<=400/\(str (dec (d / Nat.gcd m d))).size<=400):=by
   unfold fitQ;rw[i,j,AF,AF]
  have E:nv (mkRat (sg s m) d)=nvS (negQ (mkRat (sg s m) d)) (str (dec (m / Nat.gcd m d))) (str (dec (d / Nat.gcd m d))):=by
   unfold nv;rw[i,j]
  rw[E];by_cases h:fitQ (mkRat (sg s m) d)
  ·rw[ifp h,ifp (hf.1 h)]
  rw[ifn h,ifn (λe=>h (hf.2 e))]
 ·rw[A];cases s
  ·left;refine⟨rfl,?_⟩;rw[decide_eq_false_iff_not,HD];simp
  right;refine⟨rfl,?_⟩
  by_cases u:m=0
  ·subst u;rw[Cz,Lib.toList_data];rfl
  have:(decide (sg true m<0))=true:=by rw[decide_eq_true_eq,HD];exact⟨rfl,u⟩
  rw[this];exact BQ (l:=[48]) (λe=>u (Cy ((by have:=congrArg bts e;rw[AI,AI]at this;exact this:dec m=[48]).trans Cz.symm)))
 ·rw[AF];exact B
 rw[AF];exact C
variable{w wk:World}{p q:Bool}{c d g i j:ByteArray}
def Af{W a b:World}(h:Below W.heap.size W a)(hb:Below a.heap.size a b):Below W.heap.size W b:=h.trans<|hb.mono h.size
def WR(p q:Bool)(xn xd yn yd:ByteArray)(w:World):World :=
 ((w.alloc (.cells #[.bool p,.string xn,.string xd] 180)).alloc (.cells #[.bool q,.string yn,.string yd] 180)).alloc (.cells #[.bool false,.string ⟨#[]⟩,.string ⟨#[]⟩] 180)
def Gy(p q:Bool)(d c h g:ByteArray)(w:World):Below w.heap.size w (WR p q d c h g w):=by
 unfold WR;exact((blr.alloc nlr _).alloc (by simp) _).alloc (by simp;omega) _
def DN(h:Below (WR p q g d j i w).heap.size (WR p q g d j i w) wk):
  Below (WR p q g d j i w).heap.size (WR p q g d j i w) wk/\
  wk.cell? (Ad w.heap.size 0)=some (.bool p)/\wk.cell? (Ad w.heap.size 1)=some (.string g)/\wk.cell? (Ad w.heap.size 2)=some (.string d)/\
  wk.cell? (Ad (w.heap.size+1) 0)=some (.bool q)/\wk.cell? (Ad (w.heap.size+1) 1)=some (.string j)/\wk.cell? (Ad (w.heap.size+1) 2)=some (.string i):=by
 have c:∀k,k<3->w.heap.size+k<(WR p q g d j i w).heap.size:=by intro k l;unfold WR;simp;omega
 refine⟨h,?_,?_,?_,?_,?_,?_⟩
 ·exact(h.cell (p:=(Ad w.heap.size 0)) (c 0 (by omega))).trans (by simp[WR,go_sem])
 ·exact(h.cell (p:=(Ad w.heap.size 1)) (c 0 (by omega))).trans (by simp[WR,go_sem])
 ·exact(h.cell (p:=(Ad w.heap.size 2)) (c 0 (by omega))).trans (by simp[WR,go_sem])
 ·exact(h.cell (p:=(Ad (w.heap.size+1) 0)) (c 1 (by omega))).trans (by simp[WR,go_sem])
 ·exact(h.cell (p:=(Ad (w.heap.size+1) 1)) (c 1 (by omega))).trans (by simp[WR,go_sem])
 exact(h.cell (p:=(Ad (w.heap.size+1) 2)) (c 1 (by omega))).trans (by simp[WR,go_sem])
def EL(h:Below (WR p q d c i g w).heap.size (WR p q d c i g w) wk):
  wk.cell? (Ad (w.heap.size+1+1) 0)=some (.bool false)/\wk.cell? (Ad (w.heap.size+1+1) 1)=some (.string ⟨#[]⟩)/\wk.cell? (Ad (w.heap.size+1+1) 2)=some (.string ⟨#[]⟩)/\
  wk.frozen? (Ad (w.heap.size+1+1) 0)=false/\wk.frozen? (Ad (w.heap.size+1+1) 1)=false/\wk.frozen? (Ad (w.heap.size+1+1) 2)=false:=by
 have e:w.heap.size+1+1=((w.alloc (.cells #[.bool p,.string d,.string c] 180)).alloc (.cells #[.bool q,.string i,.string g] 180)).heap.size:=by simp
 rw[e];obtain⟨m,k1,k2,j,k,l,_⟩:=res3 h;exact⟨m,k1,k2,j,k,l⟩
def Mm{P:Program}{fn:Func}{R:Ending->World->Prop}{c:List PanicEntry}{a:Act}{S:World->Prop}{G:Act->World->Prop}{g:Act->World->Prop}
  (_:Shut (∀a w,S w->(S w->G a w)->g a w)) (d:Tmp) (v:Value) (h:bodyPost P fn R (.panic c) a w) (_:Hd False->g (a.put (some d) v) w):bodyPost P fn R (.panic c) a w:=h
def Cu(h:Below (WR p q d c i g w).heap.size (WR p q d c i g w) wk):Below (w.heap.size+1+1) (WR p q d c i g w) wk:=by
 refine h.mono ?_;unfold WR;simp
def Ct{k:ByteArray}(h:Below (w.heap.size+1+1) (WR p q i g k j w) wk):
  Below (w.heap.size+1+1) (WR p q i g k j w) wk/\
  wk.cell? (Ad w.heap.size 0)=some (.bool p)/\wk.cell? (Ad w.heap.size 1)=some (.string i)/\wk.cell? (Ad w.heap.size 2)=some (.string g)/\
  wk.cell? (Ad (w.heap.size+1) 0)=some (.bool q)/\wk.cell? (Ad (w.heap.size+1) 1)=some (.string k)/\wk.cell? (Ad (w.heap.size+1) 2)=some (.string j):=by
 have c:w.heap.size<w.heap.size+1+1:=by omega
 have d:w.heap.size+1<w.heap.size+1+1:=by omega
 refine⟨h,?_,?_,?_,?_,?_,?_⟩
 ·exact(h.cell (p:=(Ad w.heap.size 0)) c).trans (by simp[WR,go_sem])
 ·exact(h.cell (p:=(Ad w.heap.size 1)) c).trans (by simp[WR,go_sem])
 ·exact(h.cell (p:=(Ad w.heap.size 2)) c).trans (by simp[WR,go_sem])
 ·exact(h.cell (p:=(Ad (w.heap.size+1) 0)) d).trans (by simp[WR,go_sem])
 ·exact(h.cell (p:=(Ad (w.heap.size+1) 1)) d).trans (by simp[WR,go_sem])
 exact(h.cell (p:=(Ad (w.heap.size+1) 2)) d).trans (by simp[WR,go_sem])
end
end Go.Proofs.YtpldocnhbdlgfaaGreatDoor
