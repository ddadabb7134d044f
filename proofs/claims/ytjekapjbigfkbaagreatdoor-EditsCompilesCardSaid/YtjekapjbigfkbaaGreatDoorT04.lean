/- Parts of a proof: MP RatE RatC RatF RatG MS1. -/
import Derived.Test.YtjekapjbigfkbaaGreatDoorT03
import Derived.Test.YtjekapjbigfkbaaGreatDoorT00
import Derived.Laws.EntriesVeiled
import Derived.Deep.WholeRow
import Derived.Deep.MidRow
import Derived.Laws.ResultCell
namespace Go.Proofs.YtjekapjbigfkbaaGreatDoor
set_option maxRecDepth 100000
set_option linter.unusedSimpArgs false
set_option linter.unusedVariables false
set_option linter.unusedSectionVars false
set_option maxHeartbeats 16000000
open Go Tryz
section
open Go.RowKit
theorem z0v {fn:Func} {p u:Tmp} (h:fn.results=#[.cell p 107,.tmp u]) (c:Array Value) (W:World) (n:Nat) (r:Bool) (x y:ByteArray) (o:Bool)
  (j:c.getD p undef=.pointer (some ⟨n,0,none⟩)) (i:c.getD u undef=.bool o) (c0:W.cell? ⟨n,0,none⟩=some (.bool r)) (c1:W.cell? ⟨n,1,none⟩=some (.string x)) (c2:W.cell? ⟨n,2,none⟩=some (.string y)) :
  (results fn c).run prog W=.ok (.tuple #[.agg #[.bool r,.string x,.string y],.bool o]) W:=by
 have g:c[p]?.getD undef=.pointer (some ⟨n,0,none⟩):=by rw[<- j];simp
 have d:c[u]?.getD undef=.bool o:=by rw[<- i];simp
 simp only[results,h];simp[g,d,go_sem,c0,c1,c2]
theorem size49:(⟨#[49]⟩:ByteArray).size=1:=rfl
def NoNum:Value:=nvS false ⟨#[]⟩ ⟨#[]⟩
def okB (neg frac vn vd:Bool) (n d g:ByteArray):Bool:=vn&&vd&&decide (n.size<=400)&&decide (d.size<=400)&&!(neg&&(n.toList==[48]))&&!(frac&&(d.toList==[48]||d.toList==[49]))&&(g.toList==[49])
def PairQ (neg:Bool) (n d:ByteArray) (ok:Bool) (w:World) (e:Ending) (w':World):Prop:=e=.returned (.tuple #[if ok then nvS neg n d else NoNum,.bool ok])/\Below w.heap.size w w'
theorem v0s (s r n X d g:ByteArray) (neg E K J:Bool) (w:World)
  (G:d=if E then X else ⟨#[49]⟩) (hn:n.size<=9223372036854775807) (L:d.size<=9223372036854775807)
  (c1:∀ wx,Below w.heap.size w wx->Calls prog 132 #[.string s,.string ⟨#[45]⟩] wx fun e w'=>e=.returned (.tuple #[.string r,.bool neg])/\wx=w')
  (c2:∀ wx,Below w.heap.size w wx->Calls prog 133 #[.string r,.string ⟨#[47]⟩] wx fun e w'=>e=.returned (.tuple #[.string n,.string X,.bool E])/\Below wx.heap.size wx w')
  (c3:∀ wx,Calls prog 114 #[.string n] wx fun e w'=>e=.returned (.bool K)/\wx=w')
  (c4:∀ wx,Calls prog 114 #[.string d] wx fun e w'=>e=.returned (.bool J)/\wx=w')
  (c5:K=true->J=true->∀ wx,Below w.heap.size w wx->Calls prog 118 #[.string n,.string d] wx (StrZ g wx)) :
  Calls prog 97 #[.string s] w (PairQ neg n d (okB neg E K J n d g) w):=by
 have C1:=qh c1;clear c1;have C2:=qh c2;clear c2;have Y:=qh c3;clear c3;have Z:=qh c4;clear c4;have P:=qh c5;clear c5;have N:Below w.heap.size w (w.alloc (.cells #[.bool false,.string ⟨#[]⟩,.string ⟨#[]⟩] 107)):=(Below.refl _ _).alloc (Nat.le_refl _) _;have F:=qh N;clear N;have HN:=qh hn;clear hn;have Q:=qh L;clear L;have O:=qh G;clear G;unfold PairQ NoNum nvS;obtain⟨A,H⟩:∃ b,b=okB neg E K J n d g:=⟨_,rfl⟩;rw[<- H];have i:=qh H;clear H
 go_enter func97,ntmps97
 go_wp2_with fail
 refine(C1.out _ F.out).mono ?_;rintro e w1 ⟨rfl,rfl⟩
 go_wp2_with fail
 refine(C2.out _ F.out).mono ?_;rintro e w2 ⟨rfl,I⟩;have h:=qh I;have c:=qh (F.out.trans (I.mono F.out.size));clear I;cases E
 ·have G:=O.out;simp only[Bool.false_eq_true,if_false] at G;subst G;clear Q O
  go_wp2_with fail
  refine(Y.out _).mono ?_;rintro e w' ⟨rfl,rfl⟩;cases K
  ·-- no numerator
   have k:A=false:=by rw[i.out];first|(simp[okB, *];done)|simp[okB, *,size49]
   subst k;obtain⟨o,l,j,C,B,D,p⟩:=res3 h.out
   go_wp2_with fail
   obtain⟨s0,s1,s2⟩:=set3 (a':=.bool false) (b':=.string ⟨#[]⟩) (c':=.string ⟨#[]⟩) o l j;exact bodyPost_ret (z0v rfl _ _ w.heap.size false ⟨#[]⟩ ⟨#[]⟩ false rfl rfl s0 s1 s2) rfl ⟨rfl,((c.out.setCell (Nat.le_refl _) _).setCell (Nat.le_refl _) _).setCell (Nat.le_refl _) _⟩
  go_wp2_with fail
  refine(Z.out _).mono ?_;rintro e w' ⟨rfl,rfl⟩;cases J
  ·-- no denominator
   have k:A=false:=by rw[i.out];first|(simp[okB, *];done)|simp[okB, *,size49]
   subst k;obtain⟨o,l,j,C,B,D,p⟩:=res3 h.out
   go_wp2_with fail
   obtain⟨s0,s1,s2⟩:=set3 (a':=.bool false) (b':=.string ⟨#[]⟩) (c':=.string ⟨#[]⟩) o l j;exact bodyPost_ret (z0v rfl _ _ w.heap.size false ⟨#[]⟩ ⟨#[]⟩ false rfl rfl s0 s1 s2) rfl ⟨rfl,((c.out.setCell (Nat.le_refl _) _).setCell (Nat.le_refl _) _).setCell (Nat.le_refl _) _⟩
  by_cases h1:n.size<=400
  ·have T:(n.size:Int)<=400:=by omega
   cases neg
   ·-- no sign
    go_wp2_with fail
    refine(P.out (by trivial) (by trivial) _ c.out).mono ?_;rintro e R ⟨rfl,u⟩;have v:=qh (h.out.trans (u.mono h.out.size));have z:=qh (c.out.trans (u.mono c.out.size));clear u;cases W:(g.toList==[49])
    ·-- no
     have k:A=false:=by rw[i.out];first|(simp[okB, *];done)|simp[okB, *,size49]
     subst k;obtain⟨o,l,j,C,B,D,p⟩:=res3 v.out
     go_wp2_with fail
     obtain⟨s0,s1,s2⟩:=set3 (a':=.bool false) (b':=.string ⟨#[]⟩) (c':=.string ⟨#[]⟩) o l j;exact bodyPost_ret (z0v rfl _ _ w.heap.size false ⟨#[]⟩ ⟨#[]⟩ false rfl rfl s0 s1 s2) rfl ⟨rfl,((z.out.setCell (Nat.le_refl _) _).setCell (Nat.le_refl _) _).setCell (Nat.le_refl _) _⟩
    have k:A=true:=by rw[i.out];first|(simp[okB, *];done)|simp[okB, *,size49]
    subst k;obtain⟨o,l,j,C,B,D,p⟩:=res3 v.out
    go_wp2_with fail
    obtain⟨s0,s1,s2⟩:=set3 (a':=.bool false) (b':=.string n) (c':=.string ⟨#[49]⟩) o l j;exact bodyPost_ret (z0v rfl _ _ w.heap.size false n ⟨#[49]⟩ true rfl rfl s0 s1 s2) rfl ⟨rfl,((z.out.setCell (Nat.le_refl _) _).setCell (Nat.le_refl _) _).setCell (Nat.le_refl _) _⟩
   cases hz:(n.toList==[48])
   ·-- a sign
    go_wp2_with fail
    refine(P.out (by trivial) (by trivial) _ c.out).mono ?_;rintro e R ⟨rfl,u⟩;have v:=qh (h.out.trans (u.mono h.out.size));have z:=qh (c.out.trans (u.mono c.out.size));clear u;cases W:(g.toList==[49])
    ·-- no
     have k:A=false:=by rw[i.out];first|(simp[okB, *];done)|simp[okB, *,size49]
     subst k;obtain⟨o,l,j,C,B,D,p⟩:=res3 v.out
     go_wp2_with fail
     obtain⟨s0,s1,s2⟩:=set3 (a':=.bool false) (b':=.string ⟨#[]⟩) (c':=.string ⟨#[]⟩) o l j;exact bodyPost_ret (z0v rfl _ _ w.heap.size false ⟨#[]⟩ ⟨#[]⟩ false rfl rfl s0 s1 s2) rfl ⟨rfl,((z.out.setCell (Nat.le_refl _) _).setCell (Nat.le_refl _) _).setCell (Nat.le_refl _) _⟩
    have k:A=true:=by rw[i.out];first|(simp[okB, *];done)|simp[okB, *,size49]
    subst k;obtain⟨o,l,j,C,B,D,p⟩:=res3 v.out
    go_wp2_with fail
    obtain⟨s0,s1,s2⟩:=set3 (a':=.bool true) (b':=.string n) (c':=.string ⟨#[49]⟩) o l j;exact bodyPost_ret (z0v rfl _ _ w.heap.size true n ⟨#[49]⟩ true rfl rfl s0 s1 s2) rfl ⟨rfl,((z.out.setCell (Nat.le_refl _) _).setCell (Nat.le_refl _) _).setCell (Nat.le_refl _) _⟩
   have k:A=false:=by rw[i.out];first|(simp[okB, *];done)|simp[okB, *,size49]
   subst k;obtain⟨o,l,j,C,B,D,p⟩:=res3 h.out
   go_wp2_with fail
   obtain⟨s0,s1,s2⟩:=set3 (a':=.bool false) (b':=.string ⟨#[]⟩) (c':=.string ⟨#[]⟩) o l j;exact bodyPost_ret (z0v rfl _ _ w.heap.size false ⟨#[]⟩ ⟨#[]⟩ false rfl rfl s0 s1 s2) rfl ⟨rfl,((c.out.setCell (Nat.le_refl _) _).setCell (Nat.le_refl _) _).setCell (Nat.le_refl _) _⟩
  have T:(400:Int)<(n.size:Int):=by omega
  have k:A=false:=by rw[i.out];first|(simp[okB, *];done)|simp[okB, *,size49]
  subst k;obtain⟨o,l,j,C,B,D,p⟩:=res3 h.out
  go_wp2_with fail
  obtain⟨s0,s1,s2⟩:=set3 (a':=.bool false) (b':=.string ⟨#[]⟩) (c':=.string ⟨#[]⟩) o l j;exact bodyPost_ret (z0v rfl _ _ w.heap.size false ⟨#[]⟩ ⟨#[]⟩ false rfl rfl s0 s1 s2) rfl ⟨rfl,((c.out.setCell (Nat.le_refl _) _).setCell (Nat.le_refl _) _).setCell (Nat.le_refl _) _⟩
 have G:=O.out;simp only[if_true] at G;subst G;clear O
 go_wp2_with fail
 refine(Y.out _).mono ?_;rintro e w' ⟨rfl,rfl⟩;cases K
 ·-- no numerator
  have k:A=false:=by rw[i.out];first|(simp[okB, *];done)|simp[okB, *,size49]
  subst k;obtain⟨o,l,j,C,B,D,p⟩:=res3 h.out
  go_wp2_with fail
  obtain⟨s0,s1,s2⟩:=set3 (a':=.bool false) (b':=.string ⟨#[]⟩) (c':=.string ⟨#[]⟩) o l j;exact bodyPost_ret (z0v rfl _ _ w.heap.size false ⟨#[]⟩ ⟨#[]⟩ false rfl rfl s0 s1 s2) rfl ⟨rfl,((c.out.setCell (Nat.le_refl _) _).setCell (Nat.le_refl _) _).setCell (Nat.le_refl _) _⟩
 go_wp2_with fail
 refine(Z.out _).mono ?_;rintro e w' ⟨rfl,rfl⟩;cases J
 ·-- no denominator
  have k:A=false:=by rw[i.out];first|(simp[okB, *];done)|simp[okB, *,size49]
  subst k;obtain⟨o,l,j,C,B,D,p⟩:=res3 h.out
  go_wp2_with fail
  obtain⟨s0,s1,s2⟩:=set3 (a':=.bool false) (b':=.string ⟨#[]⟩) (c':=.string ⟨#[]⟩) o l j;exact bodyPost_ret (z0v rfl _ _ w.heap.size false ⟨#[]⟩ ⟨#[]⟩ false rfl rfl s0 s1 s2) rfl ⟨rfl,((c.out.setCell (Nat.le_refl _) _).setCell (Nat.le_refl _) _).setCell (Nat.le_refl _) _⟩
 by_cases h1:n.size<=400
 ·have T:(n.size:Int)<=400:=by omega
  by_cases h2:d.size<=400
  ·have g2:(d.size:Int)<=400:=by omega
   cases neg
   ·-- no sign
    cases S:(d.toList==[48])
    ·cases U:(d.toList==[49])
     ·-- a denominator of its own
      go_wp2_with fail
      refine(P.out (by trivial) (by trivial) _ c.out).mono ?_;rintro e R ⟨rfl,u⟩;have v:=qh (h.out.trans (u.mono h.out.size));have z:=qh (c.out.trans (u.mono c.out.size));clear u;cases W:(g.toList==[49])
      ·-- no
       have k:A=false:=by rw[i.out];first|(simp[okB, *];done)|simp[okB, *,size49]
       subst k;obtain⟨o,l,j,C,B,D,p⟩:=res3 v.out
       go_wp2_with fail
       obtain⟨s0,s1,s2⟩:=set3 (a':=.bool false) (b':=.string ⟨#[]⟩) (c':=.string ⟨#[]⟩) o l j;exact bodyPost_ret (z0v rfl _ _ w.heap.size false ⟨#[]⟩ ⟨#[]⟩ false rfl rfl s0 s1 s2) rfl ⟨rfl,((z.out.setCell (Nat.le_refl _) _).setCell (Nat.le_refl _) _).setCell (Nat.le_refl _) _⟩
      have k:A=true:=by rw[i.out];first|(simp[okB, *];done)|simp[okB, *,size49]
      subst k;obtain⟨o,l,j,C,B,D,p⟩:=res3 v.out
      go_wp2_with fail
      obtain⟨s0,s1,s2⟩:=set3 (a':=.bool false) (b':=.string n) (c':=.string d) o l j;exact bodyPost_ret (z0v rfl _ _ w.heap.size false n d true rfl rfl s0 s1 s2) rfl ⟨rfl,((z.out.setCell (Nat.le_refl _) _).setCell (Nat.le_refl _) _).setCell (Nat.le_refl _) _⟩
     have k:A=false:=by rw[i.out];first|(simp[okB, *];done)|simp[okB, *,size49]
     subst k;obtain⟨o,l,j,C,B,D,p⟩:=res3 h.out
     go_wp2_with fail
     obtain⟨s0,s1,s2⟩:=set3 (a':=.bool false) (b':=.string ⟨#[]⟩) (c':=.string ⟨#[]⟩) o l j;exact bodyPost_ret (z0v rfl _ _ w.heap.size false ⟨#[]⟩ ⟨#[]⟩ false rfl rfl s0 s1 s2) rfl ⟨rfl,((c.out.setCell (Nat.le_refl _) _).setCell (Nat.le_refl _) _).setCell (Nat.le_refl _) _⟩
    have k:A=false:=by rw[i.out];first|(simp[okB, *];done)|simp[okB, *,size49]
    subst k;obtain⟨o,l,j,C,B,D,p⟩:=res3 h.out
    go_wp2_with fail
    obtain⟨s0,s1,s2⟩:=set3 (a':=.bool false) (b':=.string ⟨#[]⟩) (c':=.string ⟨#[]⟩) o l j;exact bodyPost_ret (z0v rfl _ _ w.heap.size false ⟨#[]⟩ ⟨#[]⟩ false rfl rfl s0 s1 s2) rfl ⟨rfl,((c.out.setCell (Nat.le_refl _) _).setCell (Nat.le_refl _) _).setCell (Nat.le_refl _) _⟩
   cases hz:(n.toList==[48])
   ·-- a sign
    cases S:(d.toList==[48])
    ·cases U:(d.toList==[49])
     ·-- a denominator of its own
      go_wp2_with fail
      refine(P.out (by trivial) (by trivial) _ c.out).mono ?_;rintro e R ⟨rfl,u⟩;have v:=qh (h.out.trans (u.mono h.out.size));have z:=qh (c.out.trans (u.mono c.out.size));clear u;cases W:(g.toList==[49])
      ·-- no
       have k:A=false:=by rw[i.out];first|(simp[okB, *];done)|simp[okB, *,size49]
       subst k;obtain⟨o,l,j,C,B,D,p⟩:=res3 v.out
       go_wp2_with fail
       obtain⟨s0,s1,s2⟩:=set3 (a':=.bool false) (b':=.string ⟨#[]⟩) (c':=.string ⟨#[]⟩) o l j;exact bodyPost_ret (z0v rfl _ _ w.heap.size false ⟨#[]⟩ ⟨#[]⟩ false rfl rfl s0 s1 s2) rfl ⟨rfl,((z.out.setCell (Nat.le_refl _) _).setCell (Nat.le_refl _) _).setCell (Nat.le_refl _) _⟩
      have k:A=true:=by rw[i.out];first|(simp[okB, *];done)|simp[okB, *,size49]
      subst k;obtain⟨o,l,j,C,B,D,p⟩:=res3 v.out
      go_wp2_with fail
      obtain⟨s0,s1,s2⟩:=set3 (a':=.bool true) (b':=.string n) (c':=.string d) o l j;exact bodyPost_ret (z0v rfl _ _ w.heap.size true n d true rfl rfl s0 s1 s2) rfl ⟨rfl,((z.out.setCell (Nat.le_refl _) _).setCell (Nat.le_refl _) _).setCell (Nat.le_refl _) _⟩
     have k:A=false:=by rw[i.out];first|(simp[okB, *];done)|simp[okB, *,size49]
     subst k;obtain⟨o,l,j,C,B,D,p⟩:=res3 h.out
     go_wp2_with fail
     obtain⟨s0,s1,s2⟩:=set3 (a':=.bool false) (b':=.string ⟨#[]⟩) (c':=.string ⟨#[]⟩) o l j;exact bodyPost_ret (z0v rfl _ _ w.heap.size false ⟨#[]⟩ ⟨#[]⟩ false rfl rfl s0 s1 s2) rfl ⟨rfl,((c.out.setCell (Nat.le_refl _) _).setCell (Nat.le_refl _) _).setCell (Nat.le_refl _) _⟩
    have k:A=false:=by rw[i.out];first|(simp[okB, *];done)|simp[okB, *,size49]
    subst k;obtain⟨o,l,j,C,B,D,p⟩:=res3 h.out
    go_wp2_with fail
    obtain⟨s0,s1,s2⟩:=set3 (a':=.bool false) (b':=.string ⟨#[]⟩) (c':=.string ⟨#[]⟩) o l j;exact bodyPost_ret (z0v rfl _ _ w.heap.size false ⟨#[]⟩ ⟨#[]⟩ false rfl rfl s0 s1 s2) rfl ⟨rfl,((c.out.setCell (Nat.le_refl _) _).setCell (Nat.le_refl _) _).setCell (Nat.le_refl _) _⟩
   have k:A=false:=by rw[i.out];first|(simp[okB, *];done)|simp[okB, *,size49]
   subst k;obtain⟨o,l,j,C,B,D,p⟩:=res3 h.out
   go_wp2_with fail
   obtain⟨s0,s1,s2⟩:=set3 (a':=.bool false) (b':=.string ⟨#[]⟩) (c':=.string ⟨#[]⟩) o l j;exact bodyPost_ret (z0v rfl _ _ w.heap.size false ⟨#[]⟩ ⟨#[]⟩ false rfl rfl s0 s1 s2) rfl ⟨rfl,((c.out.setCell (Nat.le_refl _) _).setCell (Nat.le_refl _) _).setCell (Nat.le_refl _) _⟩
  have g2:(400:Int)<(d.size:Int):=by omega
  have k:A=false:=by rw[i.out];first|(simp[okB, *];done)|simp[okB, *,size49]
  subst k;obtain⟨o,l,j,C,B,D,p⟩:=res3 h.out
  go_wp2_with fail
  obtain⟨s0,s1,s2⟩:=set3 (a':=.bool false) (b':=.string ⟨#[]⟩) (c':=.string ⟨#[]⟩) o l j;exact bodyPost_ret (z0v rfl _ _ w.heap.size false ⟨#[]⟩ ⟨#[]⟩ false rfl rfl s0 s1 s2) rfl ⟨rfl,((c.out.setCell (Nat.le_refl _) _).setCell (Nat.le_refl _) _).setCell (Nat.le_refl _) _⟩
 have T:(400:Int)<(n.size:Int):=by omega
 have k:A=false:=by rw[i.out];first|(simp[okB, *];done)|simp[okB, *,size49]
 subst k;obtain⟨o,l,j,C,B,D,p⟩:=res3 h.out
 go_wp2_with fail
 obtain⟨s0,s1,s2⟩:=set3 (a':=.bool false) (b':=.string ⟨#[]⟩) (c':=.string ⟨#[]⟩) o l j;exact bodyPost_ret (z0v rfl _ _ w.heap.size false ⟨#[]⟩ ⟨#[]⟩ false rfl rfl s0 s1 s2) rfl ⟨rfl,((c.out.setCell (Nat.le_refl _) _).setCell (Nat.le_refl _) _).setCell (Nat.le_refl _) _⟩
end
section
open Go.RowKit
theorem str_eq {l r:List UInt8}:((str l).toList==r)=decide (l=r):=by
 rw[Lib.toList_data];show (bts (str l)==r)=_;rw[z1f,Bool.eq_iff_iff];simp
def prsV (o:Option Rat):Value:=match o with|some q=>nv q|none=>NoNum
theorem y9w (o:Option Rat):∃ r x y,prsV o=.agg #[.bool r,.string x,.string y]:=by cases o<;>exact⟨_,_,_,rfl⟩
theorem z8z (s:ByteArray) (w:World) (I:s.size<=9223372036854775807) (H:Tab w) :
  Calls prog 97 #[.string s] w fun e w' =>
   e=.returned (.tuple #[prsV (prs s),.bool (prs s).isSome])/\Below w.heap.size w w':=by
 have o:(z1d (bts s)).length<=s.size:=by
  unfold z1d;split
  ·rw[List.length_tail,z0j];omega
  rw[z0j];omega
 have A:(upTo (z1d (bts s))).length<=s.size:=Nat.le_trans (List.takeWhile_sublist _).length_le o;have C:(z6p (z1d (bts s))).length<=s.size:=by
  unfold z6p;rw[List.length_tail];have:=(List.dropWhile_sublist (· != 47) (l:=z1d (bts s))).length_le;omega
 have D:∀ c,Below w.heap.size w c->Tab c:=fun c h=>H.below h (Nat.le_refl _);have j:str (denL (z1d (bts s)))=if hasS (z1d (bts s)) then str (if hasS (z1d (bts s)) then z6p (z1d (bts s)) else []) else ⟨#[49]⟩:=by
  unfold denL;cases hasS (z1d (bts s))<;>rfl
 have i:(str (denL (z1d (bts s)))).size<=9223372036854775807:=by
  rw[z0s];unfold denL;split
  ·omega
  show 1<=_;omega
 have B:=v0s s (str (z1d (bts s))) (str (upTo (z1d (bts s)))) (str (if hasS (z1d (bts s)) then z6p (z1d (bts s)) else [])) (str (denL (z1d (bts s))))
  (str (dec (Nat.gcd (num (upTo (z1d (bts s)))) (num (denL (z1d (bts s))))))) (z4f (bts s)) (hasS (z1d (bts s))) (z0w (upTo (z1d (bts s)))) (z0w (denL (z1d (bts s)))) w
  j (by rw[z0s];omega) i (fun c _=>v6a s c)
  (fun c _=>by
   have:=u2h (str (z1d (bts s))) c (by rw[z0s];omega);rw[z1f] at this;exact this)
  (fun c=>by
   have:=z4g (str (upTo (z1d (bts s)))) c (by rw[z0s];unfold maxLen;omega);unfold vld at this;rw[z1f] at this;exact this)
  (fun c=>by
   have:=z4g (str (denL (z1d (bts s)))) c (by unfold maxLen;omega);unfold vld at this;rw[z1f] at this;exact this)
  (fun z u c h=>by
   have p:=z3x z;have e2:=z3x u;have F:fits (num (upTo (z1d (bts s)))):=by unfold fits;rw[p];exact(z0m z).2.1
   have G:fits (num (denL (z1d (bts s)))):=by unfold fits;rw[e2];exact(z0m u).2.1
   have:=v5a _ _ c F G (D c h);rw[p,e2] at this;exact this)
 refine B.mono ?_;rintro e w' ⟨rfl,hb⟩;refine⟨?_,hb⟩;have k:okB (z4f (bts s)) (hasS (z1d (bts s))) (z0w (upTo (z1d (bts s)))) (z0w (denL (z1d (bts s)))) (str (upTo (z1d (bts s)))) (str (denL (z1d (bts s)))) (str (dec (Nat.gcd (num (upTo (z1d (bts s)))) (num (denL (z1d (bts s)))))))
   = okP (z4f (bts s)) (upTo (z1d (bts s))) (denL (z1d (bts s))) (hasS (z1d (bts s))):=by
  unfold okB okP;rw[str_eq,str_eq,str_eq,str_eq,z0s,z0s];have E:∀ n,(decide (dec n=[49]))=decide (n=1):=fun n=>by
   rw[decide_eq_decide];exact⟨fun h=>z5v (h.trans z4i.symm),fun h=>by rw[h,z4i]⟩
  rw[E];have hb:∀ l r:List UInt8,(l==r)=decide (l=r):=fun l r=>by rw[Bool.eq_iff_iff];simp
  simp only[hb]
 rw[k];cases v:okP (z4f (bts s)) (upTo (z1d (bts s))) (denL (z1d (bts s))) (hasS (z1d (bts s)))
 ·have d:prs s=none:=by unfold prs prsL;rw[v];rfl
  rw[d];rfl
 have d:prs s=some (mkRat (sg (z4f (bts s)) (num (upTo (z1d (bts s))))) (num (denL (z1d (bts s))))):=by unfold prs prsL;rw[v];rfl
 have g:=(y6p d).2;rw[d];simp only[prsV,nv,g.sign,g.top,g.bot];rfl
end
section
open Go.RowKit
theorem v4a (g:FuncId) (p q:Bool) (v A z u:ByteArray) (E:Ending) (s l o:Nat) (w:World) (C:(∃ r x y,E=.returned (.agg #[.bool r,.string x,.string y]))\/E=PT)
  (P:∀ args w,(callFunc g args).run prog w=.ok (.enter g args) w) (l0:s<w.heap.size) (l1:l<w.heap.size) (l2:o<w.heap.size)
  (c0:w.cell? ⟨s,0,none⟩=some (.func (.func g) #[] #[])) (I:w.cell? ⟨l,0,none⟩=some (.bool p)) (K:w.cell? ⟨l,1,none⟩=some (.string v)) (N:w.cell? ⟨l,2,none⟩=some (.string A))
  (R:w.cell? ⟨o,0,none⟩=some (.bool q)) (J:w.cell? ⟨o,1,none⟩=some (.string z)) (e2:w.cell? ⟨o,2,none⟩=some (.string u))
  (i:∀ wx,Below w.heap.size w wx->Calls prog g #[nvS p v A,nvS q z u] wx fun e w'=>e=E/\Below wx.heap.size wx w') :
  Calls prog 110 #[.pointer (some ⟨s,0,none⟩),.pointer (some ⟨l,0,none⟩),.pointer (some ⟨o,0,none⟩)] w fun e w'=>e=E/\Below w.heap.size w w':=by
 unfold nvS at i;have j:=qh i;clear i;have k:Below w.heap.size w (w.alloc (.cells #[.bool false,.string ⟨#[]⟩,.string ⟨#[]⟩] 107)):=(Below.refl _ _).alloc (Nat.le_refl _) _;have h:=qh k;clear k
 rcases C with ⟨r,x,y,rfl⟩|rfl
 ·go_enter func110,ntmps110
  go_wp2_with fail
  refine(j.out _ h.out).mono ?_;rintro e H ⟨rfl,c⟩;have d:=qh c;clear c;obtain⟨F,D,B,O,L,Q,G⟩:=res3 d.out;obtain⟨s0,s1,s2⟩:=set3 (a':=.bool r) (b':=.string x) (c':=.string y) F D B
  go_wp2_with fail
  exact bodyPost_ret (z6b rfl _ _ w.heap.size r x y rfl s0 s1 s2) rfl ⟨rfl,(((z0a h.out d.out).setCell (Nat.le_refl _) _).setCell (Nat.le_refl _) _).setCell (Nat.le_refl _) _⟩
 unfold PT at j ⊢
 go_enter func110,ntmps110
 go_wp2_with fail
 refine(j.out _ h.out).mono ?_;rintro e H ⟨rfl,c⟩;have d:=qh c;clear c
 go_wp2_with fail
 exact⟨rfl,rfl,z0a h.out d.out⟩
theorem qE (q:Rat):(∃ r x y,(if fitQ q then .returned (nv q) else PT)=Ending.returned (.agg #[.bool r,.string x,.string y]))\/(if fitQ q then .returned (nv q) else PT)=PT:=by
 by_cases h:fitQ q
 ·rw[if_pos h];exact .inl ⟨_,_,_,rfl⟩
 rw[if_neg h];exact .inr rfl
def okR (F:Rat->Rat->Rat) (a b:ByteArray):ByteArray × Nat:=match prs a,prs b with|some x,some y=>limR (F x y)|_,_=>(str [],1)
theorem y6w (g:FuncId) (F:Rat->Rat->Rat) (a b:ByteArray) (w:World) (W:a.size<=9223372036854775807) (hb:b.size<=9223372036854775807) (X:Tab w)
  (U:∀ args w,(callFunc g args).run prog w=.ok (.enter g args) w)
  (A:∀ x y,prs a=some x->prs b=some y->∀ wx,Below w.heap.size w wx->Calls prog g #[nv x,nv y] wx (QEnd (F x y) wx)) :
  Calls prog 67 #[.string a,.string b,.func (.func g) #[] #[]] w (PairEnd (okR F a b) w):=by
 have Y:∀ (fn:Fn) (first cap:Array Value) (w:World),(Instr.makeFunc fn first cap).run prog w=.ok (.func fn first cap) w:=fun _ _ _ _=>rfl
 have R:∀ wx,Below w.heap.size w wx->Tab wx:=fun wx h=>X.below h (Nat.le_refl _);have c1:=fun wx (h:Below w.heap.size w wx)=>z8z a wx W (R wx h);have c2:=fun wx (h:Below w.heap.size w wx)=>z8z b wx hb (R wx h);have S:=qh U;clear U;have z:=qh A;clear A;clear R X W hb;have L:Below w.heap.size w (w.alloc (.cells #[.func (.func g) #[] #[]] 112)):=(Below.refl _ _).alloc (Nat.le_refl _) _;have l:=qh L;clear L;cases C:prs a with
 | none =>
  have E:okR F a b=(str [],1):=by unfold okR;rw[C]
  rw[E];simp only[C,Option.isSome,prsV] at c1;clear E z C;have G:=qh c1;clear c1;generalize (prs b).isSome=o at c2;obtain⟨r,x,y,T⟩:=y9w (prs b);rw[T] at c2;clear T;have I:=qh c2;clear c2;unfold NoNum nvS at G
  go_enter func67,ntmps67
  go_wp2_with fail
  refine(G.out _ l.out).mono ?_;rintro e B ⟨rfl,c⟩;have j:=qh ((z0a l.out c).alloc (Nat.le_trans l.out.size c.size) (.cells #[.bool false,.string ⟨#[]⟩,.string ⟨#[]⟩] 107));clear c
  go_wp2_with fail
  refine(I.out _ j.out).mono ?_;rintro e D ⟨rfl,d⟩;have k:=qh (z0a j.out d);clear d
  go_wp2_with fail
  go_ret2;exact⟨rfl,k.out.alloc k.out.size _⟩
 | some x =>
  simp only[C,Option.isSome,prsV] at c1;have G:=qh c1;clear c1;cases J:prs b with
  | none =>
   have E:okR F a b=(str [],1):=by unfold okR;rw[C,J]
   rw[E];simp only[J,Option.isSome,prsV] at c2;clear E z C J;have I:=qh c2;clear c2;unfold nv nvS at G;unfold NoNum nvS at I
   go_enter func67,ntmps67
   go_wp2_with fail
   refine(G.out _ l.out).mono ?_;rintro e B ⟨rfl,c⟩;have j:=qh ((z0a l.out c).alloc (Nat.le_trans l.out.size c.size) (.cells #[.bool (negQ x),.string (str (dec x.num.natAbs)),.string (str (dec x.den))] 107));clear c
   go_wp2_with fail
   refine(I.out _ j.out).mono ?_;rintro e D ⟨rfl,d⟩;have k:=qh (z0a j.out d);clear d
   go_wp2_with fail
   go_ret2;exact⟨rfl,k.out.alloc k.out.size _⟩
  | some y =>
   have E:okR F a b=limR (F x y):=by unfold okR;rw[C,J]
   rw[E];simp only[J,Option.isSome,prsV] at c2;have A:=fun wx h=>z.out x y C J wx h;clear E z C J;have z:=qh A;clear A;have I:=qh c2;clear c2;unfold nv nvS at G I
   go_enter func67,ntmps67
   go_wp2_with fail
   refine(G.out _ l.out).mono ?_;rintro e B ⟨rfl,c⟩;have N:=qh c;have j:=qh ((z0a l.out c).alloc (Nat.le_trans l.out.size c.size) (.cells #[.bool (negQ x),.string (str (dec x.num.natAbs)),.string (str (dec x.den))] 107));clear c
   go_wp2_with fail
   refine(I.out _ j.out).mono ?_;rintro e D ⟨rfl,d⟩;have H:=qh d;have k:=qh ((z0a j.out d).alloc (Nat.le_trans j.out.size d.size) (.cells #[.bool (negQ y),.string (str (dec y.num.natAbs)),.string (str (dec y.den))] 107));clear d
   go_wp2_with fail
   refine(x4j _ (F x y) _ (fun wx h=>?_)).mono ?_
   ·have z0:=N.out.size;have z1:=H.out.size;have z2:=h.size;rw[World.size_alloc] at z0 z1 z2;have s0:w.heap.size<(w.alloc (.cells #[.func (.func g) #[] #[]] 112)).heap.size:=by rw[World.size_alloc];omega
    have s1:∀ o,B.heap.size<(B.alloc o).heap.size:=fun o=>by rw[World.size_alloc];omega
    have s2:∀ o,D.heap.size<(D.alloc o).heap.size:=fun o=>by rw[World.size_alloc];omega
    have K:wx.cell? ⟨w.heap.size,0,none⟩=some (.func (.func g) #[] #[]):=by
     refine(h.cell (p:=⟨w.heap.size,0,none⟩) (by rw[World.size_alloc];show w.heap.size<_;omega)).trans ?_;rw[World.cell?_alloc_past (hn:=by omega)];refine(H.out.cell (p:=⟨w.heap.size,0,none⟩) (by rw[World.size_alloc];show w.heap.size<_;omega)).trans ?_;rw[World.cell?_alloc_past (hn:=by omega)];refine(N.out.cell (p:=⟨w.heap.size,0,none⟩) s0).trans ?_;simp[go_sem]
    have s:∀ (i:Nat) (v:Value),(B.alloc (.cells #[.bool (negQ x),.string (str (dec x.num.natAbs)),.string (str (dec x.den))] 107)).cell? ⟨B.heap.size,i,none⟩=some v->wx.cell? ⟨B.heap.size,i,none⟩=some v:=by
     intro i v Q;refine(h.cell (p:=⟨B.heap.size,i,none⟩) (by rw[World.size_alloc];show B.heap.size<_;omega)).trans ?_;rw[World.cell?_alloc_past (hn:=by omega)];exact(H.out.cell (p:=⟨B.heap.size,i,none⟩) (s1 _)).trans Q
    have u:∀ (i:Nat) (v:Value),(D.alloc (.cells #[.bool (negQ y),.string (str (dec y.num.natAbs)),.string (str (dec y.den))] 107)).cell? ⟨D.heap.size,i,none⟩=some v->wx.cell? ⟨D.heap.size,i,none⟩=some v:=by
     intro i v Q;exact(h.cell (p:=⟨D.heap.size,i,none⟩) (s2 _)).trans Q
    exact v4a g _ _ _ _ _ _ _ w.heap.size B.heap.size D.heap.size wx (qE (F x y)) S.out (by omega) (by omega) (by omega) K
     (s 0 _ (by simp[go_sem])) (s 1 _ (by simp[go_sem])) (s 2 _ (by simp[go_sem])) (u 0 _ (by simp[go_sem])) (u 1 _ (by simp[go_sem])) (u 2 _ (by simp[go_sem]))
     (fun Z hy=>z.out Z ((z0a k.out h).trans (hy.mono (z0a k.out h).size)))
   rintro e w3 ⟨rfl,O⟩;have P:=qh (z0a k.out O);clear O;generalize limR (F x y)=lr at *;obtain⟨ls,ln⟩:=lr
   go_wp2_with fail
   go_ret2;exact⟨rfl,P.out⟩
end
section
open Go.RowKit
attribute [local go_sem ↓] Go.wp_at_zero Go.wp_at_succ
theorem v7p (p q:Bool) (h l i j a b c d:ByteArray) (s:Bool) (E:Ending) (w:World) (R:(∃ r x y,E=.returned (.agg #[.bool r,.string x,.string y]))\/E=PT)
  (c1:∀ wx,Below w.heap.size w wx->Calls prog 71 #[.string h,.string j] wx (StrZ a wx))
  (c2:∀ wx,Below w.heap.size w wx->Calls prog 71 #[.string i,.string l] wx (StrZ b wx))
  (c3:∀ wx,Below w.heap.size w wx->Calls prog 69 #[.bool p,.string a,.bool q,.string b] wx fun e w'=>e=.returned (.tuple #[.bool s,.string c])/\Below wx.heap.size wx w')
  (c4:∀ wx,Below w.heap.size w wx->Calls prog 71 #[.string l,.string j] wx (StrZ d wx))
  (c5:∀ wx,Below w.heap.size w wx->Calls prog 72 #[.bool s,.string c,.string d] wx fun e w'=>e=E/\Below wx.heap.size wx w') :
  Calls prog 68 #[nvS p h l,nvS q i j] w fun e w'=>e=E/\Below w.heap.size w w':=by
 have J:=qh c1;clear c1;have K:=qh c2;clear c2;have L:=qh c3;clear c3;have N:=qh c4;clear c4;have F:=qh c5;clear c5;have g:=qh (x5p p q h l i j w);have S:Below (WR p q h l i j w).heap.size (WR p q h l i j w) (WR p q h l i j w).drew:=(Below.refl _ _).drew;unfold nvS
 rcases R with ⟨r,x,y,rfl⟩|rfl
 ·-- a number
  go_enter func68,ntmps68
  go_wp2_with fail
  change Code.wp _ _ _ _ (WR p q h l i j w)
  go_region_held2 (fun k=>Below (WR p q h l i j w).heap.size (WR p q h l i j w) k /\
   k.cell? ⟨w.heap.size,0,none⟩=some (.bool p)/\k.cell? ⟨w.heap.size,1,none⟩=some (.string h)/\k.cell? ⟨w.heap.size,2,none⟩=some (.string l) /\
   k.cell? ⟨w.heap.size+1,0,none⟩=some (.bool q)/\k.cell? ⟨w.heap.size+1,1,none⟩=some (.string i)/\k.cell? ⟨w.heap.size+1,2,none⟩=some (.string j))
   (first|exact y4x (by assumption)|exact y4x (Below.refl _ _).drew)
   (first
   | (go_at_call_of 71 (Value.string h);refine(J.out _ (z0a g.out (by assumption))).mono ?_;rintro e w1 ⟨rfl,C⟩;have H:=z0a (by assumption) C)
   | (go_at_call_of 71 (Value.string i);refine(K.out _ (z0a g.out (by assumption))).mono ?_;rintro e Z ⟨rfl,z⟩;have I:=z0a (by assumption) z)
   | (go_at_call 70;refine(z2p _ _).mono ?_;rintro e w' ⟨rfl,rfl⟩)
   | (go_at_call 69;refine(L.out _ (z0a g.out (by assumption))).mono ?_;rintro e T ⟨rfl,D⟩;have u:=z0a (by assumption) D))
  rename_i G;obtain⟨_,e0,Q,e2,e3,O,Y⟩:=G
  go_wp2_with fail
  refine(N.out _ (z0a g.out u)).mono ?_;rintro e X ⟨rfl,A⟩;have o:=z0a u A
  go_wp2_with fail
  refine(z2p _ _).mono ?_;rintro e w' ⟨rfl,rfl⟩
  go_wp2_with fail
  refine(F.out _ (z0a g.out o)).mono ?_;rintro e w5 ⟨rfl,B⟩;have v:=z0a o B;obtain⟨W,U,P,f0,f1,f2⟩:=v1y v;obtain⟨s0,s1,s2⟩:=set3 (a':=.bool r) (b':=.string x) (c':=.string y) W U P
  go_wp2_with fail
  refine bodyPost_ret (z6b rfl _ _ (w.heap.size+1+1) r x y rfl s0 s1 s2) rfl ⟨rfl,(((z0a g.out v).setCell ?_ _).setCell ?_ _).setCell ?_ _⟩<;>(show w.heap.size<=w.heap.size+1+1;omega)
 unfold PT at F ⊢
 go_enter func68,ntmps68
 go_wp2_with fail
 change Code.wp _ _ _ _ (WR p q h l i j w)
 go_region_held2 (fun k=>Below (WR p q h l i j w).heap.size (WR p q h l i j w) k /\
  k.cell? ⟨w.heap.size,0,none⟩=some (.bool p)/\k.cell? ⟨w.heap.size,1,none⟩=some (.string h)/\k.cell? ⟨w.heap.size,2,none⟩=some (.string l) /\
  k.cell? ⟨w.heap.size+1,0,none⟩=some (.bool q)/\k.cell? ⟨w.heap.size+1,1,none⟩=some (.string i)/\k.cell? ⟨w.heap.size+1,2,none⟩=some (.string j))
  (first|exact y4x (by assumption)|exact y4x (Below.refl _ _).drew)
  (first
  | (go_at_call_of 71 (Value.string h);refine(J.out _ (z0a g.out (by assumption))).mono ?_;rintro e w1 ⟨rfl,C⟩;have H:=z0a (by assumption) C)
  | (go_at_call_of 71 (Value.string i);refine(K.out _ (z0a g.out (by assumption))).mono ?_;rintro e Z ⟨rfl,z⟩;have I:=z0a (by assumption) z)
  | (go_at_call 70;refine(z2p _ _).mono ?_;rintro e w' ⟨rfl,rfl⟩)
  | (go_at_call 69;refine(L.out _ (z0a g.out (by assumption))).mono ?_;rintro e T ⟨rfl,D⟩;have u:=z0a (by assumption) D))
 rename_i G;obtain⟨_,e0,Q,e2,e3,O,Y⟩:=G
 go_wp2_with fail
 refine(N.out _ (z0a g.out u)).mono ?_;rintro e X ⟨rfl,A⟩;have o:=z0a u A
 go_wp2_with fail
 refine(z2p _ _).mono ?_;rintro e w' ⟨rfl,rfl⟩
 go_wp2_with fail
 refine(F.out _ (z0a g.out o)).mono ?_;rintro e w5 ⟨rfl,B⟩;have v:=z0a o B
 go_wp2_with fail
 exact⟨rfl,rfl,z0a g.out v⟩
theorem v5z (p q:Bool) (g h j i a b:ByteArray) (E:Ending) (w:World) (H:(∃ r x y,E=.returned (.agg #[.bool r,.string x,.string y]))\/E=PT)
  (c1:∀ wx,Below w.heap.size w wx->Calls prog 71 #[.string g,.string j] wx (StrZ a wx))
  (c2:∀ wx,Below w.heap.size w wx->Calls prog 71 #[.string h,.string i] wx (StrZ b wx))
  (c5:∀ wx,Below w.heap.size w wx->Calls prog 72 #[.bool (p != q),.string a,.string b] wx fun e w'=>e=E/\Below wx.heap.size wx w') :
  Calls prog 193 #[nvS p g h,nvS q j i] w fun e w'=>e=E/\Below w.heap.size w w':=by
 have B:=qh c1;clear c1;have D:=qh c2;clear c2;have v:=qh c5;clear c5;have c:=qh (x5p p q g h j i w);have I:Below (WR p q g h j i w).heap.size (WR p q g h j i w) (WR p q g h j i w).drew:=(Below.refl _ _).drew;unfold nvS
 rcases H with ⟨r,x,y,rfl⟩|rfl
 ·-- a number
  go_enter func193,ntmps193
  go_wp2_with fail
  change Code.wp _ _ _ _ (WR p q g h j i w)
  go_region_held2 (fun d=>Below (w.heap.size+1+1) (WR p q g h j i w) d /\
   d.cell? ⟨w.heap.size,0,none⟩=some (.bool p)/\d.cell? ⟨w.heap.size,1,none⟩=some (.string g)/\d.cell? ⟨w.heap.size,2,none⟩=some (.string h) /\
   d.cell? ⟨w.heap.size+1,0,none⟩=some (.bool q)/\d.cell? ⟨w.heap.size+1,1,none⟩=some (.string j)/\d.cell? ⟨w.heap.size+1,2,none⟩=some (.string i))
   (first|exact z7f (x7w (by assumption))|exact z7f (x7w (Below.refl _ _).drew)|exact z7f ((((x7w (by assumption)).setCell (Nat.le_refl _) _).setCell (Nat.le_refl _) _).setCell (Nat.le_refl _) _))
   (first
   | (go_at_call_of 71 (Value.string g);refine(B.out _ (z0a c.out (by assumption))).mono ?_;rintro e P ⟨rfl,s⟩;have z:=z0a (by assumption) s)
   | (go_at_call_of 71 (Value.string h);refine(D.out _ (z0a c.out (by assumption))).mono ?_;rintro e N ⟨rfl,o⟩;have A:=z0a (by assumption) o)
   | (go_at_call 70;refine(z2p _ _).mono ?_;rintro e w' ⟨rfl,rfl⟩)
   | (go_at_call 72;refine(v.out _ (z0a c.out (by assumption))).mono ?_;rintro e K ⟨rfl,u⟩;have k:=z0a (by assumption) u;obtain⟨G,F,C,L,J,O⟩:=v1y k;obtain⟨s0,s1,s2⟩:=set3 (a':=.bool r) (b':=.string x) (c':=.string y) G F C))
  go_wp2_with fail
  refine bodyPost_ret (z6b rfl _ _ (w.heap.size+1+1) r x y rfl s0 s1 s2) rfl ⟨rfl,(((z0a c.out k).setCell ?_ _).setCell ?_ _).setCell ?_ _⟩<;>(show w.heap.size<=w.heap.size+1+1;omega)
 unfold PT at v ⊢
 go_enter func193,ntmps193
 go_wp2_with fail
 change Code.wp _ _ _ _ (WR p q g h j i w)
 go_region_held2 (fun d=>Below (w.heap.size+1+1) (WR p q g h j i w) d /\
  d.cell? ⟨w.heap.size,0,none⟩=some (.bool p)/\d.cell? ⟨w.heap.size,1,none⟩=some (.string g)/\d.cell? ⟨w.heap.size,2,none⟩=some (.string h) /\
  d.cell? ⟨w.heap.size+1,0,none⟩=some (.bool q)/\d.cell? ⟨w.heap.size+1,1,none⟩=some (.string j)/\d.cell? ⟨w.heap.size+1,2,none⟩=some (.string i))
  (first|exact z7f (x7w (by assumption))|exact z7f (x7w (Below.refl _ _).drew)|exact z7f ((((x7w (by assumption)).setCell (Nat.le_refl _) _).setCell (Nat.le_refl _) _).setCell (Nat.le_refl _) _))
  (first
  | (go_at_call_of 71 (Value.string g);refine(B.out _ (z0a c.out (by assumption))).mono ?_;rintro e P ⟨rfl,s⟩;have z:=z0a (by assumption) s)
  | (go_at_call_of 71 (Value.string h);refine(D.out _ (z0a c.out (by assumption))).mono ?_;rintro e N ⟨rfl,o⟩;have A:=z0a (by assumption) o)
  | (go_at_call 70;refine(z2p _ _).mono ?_;rintro e w' ⟨rfl,rfl⟩)
  | (go_at_call 72;refine(v.out _ (z0a c.out (by assumption))).mono ?_;rintro e K ⟨rfl,u⟩;have k:=z0a (by assumption) u;obtain⟨G,F,C,L,J,O⟩:=v1y k;refine u5r (by assumption) 26 (.agg #[.bool false,.string ⟨#[]⟩,.string ⟨#[]⟩]) ⟨rfl,rfl,z0a c.out k⟩ (fun l=>?_)))
 exact l.out.elim
end
section
open Go.RowKit
theorem u3z (x y:Rat) (w:World) (g:fitQ x) (d:fitQ y) (l:Tab w):Calls prog 68 #[nv x,nv y] w (QEnd (x+y) w):=by
 have i:∀ c,Below w.heap.size w c->Tab c:=fun c h=>l.below h (Nat.le_refl _);have o:fits (x.num.natAbs*y.den):=z3c g.1 d.2;have p:fits (y.num.natAbs*x.den):=z3c d.1 g.2;have k:fits (x.num.natAbs*y.den+y.num.natAbs*x.den):=y4c g.1 d.2 d.1 g.2;have j:fits (x.den*y.den):=z3c g.2 d.2;unfold QEnd;rw[v9y x y];exact v7p (negQ x) (negQ y) _ _ _ _ (str (dec (x.num.natAbs*y.den))) (str (dec (y.num.natAbs*x.den))) _ (str (dec (x.den*y.den))) _ _ w (qE _)
  (fun c h=>y1c _ _ c (z5t g) (z3p d) o (i c h)) (fun c h=>y1c _ _ c (z5t d) (z3p g) p (i c h))
  (fun c h=>y7b (negQ x) (negQ y) _ _ c k (i c h)) (fun c h=>y1c _ _ c (z3p g) (z3p d) j (i c h))
  (fun c h=>x0p _ _ _ c (z4t k (v5c _ _ _ _)) j (Nat.mul_ne_zero x.den_nz y.den_nz) (i c h))
theorem u3s (x y:Rat) (w:World) (g:fitQ x) (d:fitQ y) (l:Tab w):Calls prog 193 #[nv x,nv y] w (QEnd (x*y) w):=by
 have i:∀ c,Below w.heap.size w c->Tab c:=fun c h=>l.below h (Nat.le_refl _);have j:fits (x.num.natAbs*y.num.natAbs):=z3c g.1 d.1;have k:fits (x.den*y.den):=z3c g.2 d.2;unfold QEnd;rw[u0a x y];exact v5z (negQ x) (negQ y) _ _ _ _ (str (dec (x.num.natAbs*y.num.natAbs))) (str (dec (x.den*y.den))) _ w (qE _)
  (fun c h=>y1c _ _ c (z5t g) (z5t d) j (i c h)) (fun c h=>y1c _ _ c (z3p g) (z3p d) k (i c h))
  (fun c h=>x0p _ _ _ c j k (Nat.mul_ne_zero x.den_nz y.den_nz) (i c h))
theorem v7k:∀ args w,(callFunc 68 args).run prog w=.ok (.enter 68 args) w:=fun args w=>by kernel_rfl
theorem y9j (a b:ByteArray) (w:World) (g:a.size<=9223372036854775807) (hb:b.size<=9223372036854775807) (d:Tab w) :
  Calls prog 34 #[.string a,.string b] w (PairEnd (z2m a b) w):=by
 have c:=y6w 68 (fun x y=>x+y) a b w g hb d v7k (fun x y l k j h=>u3z x y j (z3f l).2 (z3f k).2 (d.below h (Nat.le_refl _)));have i:okR (fun x y=>x+y) a b=z2m a b:=rfl;rw[i] at c;generalize z2m a b=r at *;obtain⟨s,v⟩:=r;have o:=qh c;clear c i d g hb
 go_enter func34,ntmps34
 go_wp2_with fail
 refine o.out.mono ?_;rintro e u ⟨rfl,hb⟩;have p:=qh hb;clear hb
 go_wp2_with fail
 go_ret2;exact⟨rfl,p.out⟩
theorem v6c:∀ args w,(callFunc 193 args).run prog w=.ok (.enter 193 args) w:=fun args w=>by kernel_rfl
theorem x5g (a b:ByteArray) (w:World) (g:a.size<=9223372036854775807) (hb:b.size<=9223372036854775807) (d:Tab w) :
  Calls prog 158 #[.string a,.string b] w (PairEnd (z5x a b) w):=by
 have c:=y6w 193 (fun x y=>x*y) a b w g hb d v6c (fun x y l k j h=>u3s x y j (z3f l).2 (z3f k).2 (d.below h (Nat.le_refl _)));have i:okR (fun x y=>x*y) a b=z5x a b:=rfl;rw[i] at c;generalize z5x a b=r at *;obtain⟨s,v⟩:=r;have o:=qh c;clear c i d g hb
 go_enter func158,ntmps158
 go_wp2_with fail
 refine o.out.mono ?_;rintro e u ⟨rfl,hb⟩;have p:=qh hb;clear hb
 go_wp2_with fail
 go_ret2;exact⟨rfl,p.out⟩
theorem z9v (a:ByteArray) (w:World) (d:a.size<=9223372036854775807) (h:Tab w) :
  Calls prog 91 #[.string a] w fun e w'=>e=.returned (.bool (prs a).isSome)/\Below w.heap.size w w':=by
 have c:=z8z a w d h;obtain⟨r,x,y,g⟩:=y9w (prs a);rw[g] at c;generalize (prs a).isSome=o at *;have i:=qh c;clear c g d h
 go_enter func91,ntmps91
 go_wp2_with fail
 refine i.out.mono ?_;rintro e w' ⟨rfl,hb⟩;have j:=qh hb;clear hb
 go_wp2_with fail
 go_ret;exact⟨rfl,j.out⟩
theorem y9n:prs ⟨#[48]⟩=some 0:=by
 have:txt 0=⟨#[48]⟩:=by unfold txt txtL;rw[show negQ 0=false from rfl,show (0:Rat).num.natAbs=0 from rfl,show (0:Rat).den=1 from rfl,z3w];rfl
 rw[<- this];exact z1e (by unfold fitQ;rw[show (0:Rat).num.natAbs=0 from rfl,show (0:Rat).den=1 from rfl,z3w,z4i];decide)
end
section
open Go.RowKit
attribute [local go_sem ↓] Go.wp_at_zero Go.wp_at_succ
theorem u2j (p q:Bool) (B E u z a b c:ByteArray) (s:Bool) (v:Int) (s1 s2:ByteArray) (w:World)
  (D:((c.toList==[48])=true/\v=0)\/((c.toList==[48])=false/\s=true/\v=-1)\/((c.toList==[48])=false/\s=false/\v=1))
  (c0:∀ wx,Below w.heap.size w wx->Calls prog 97 #[.string s1] wx fun e w'=>e=.returned (.tuple #[.agg #[.bool p,.string B,.string E],.bool true])/\Below wx.heap.size wx w')
  (G:∀ wx,Below w.heap.size w wx->Calls prog 97 #[.string s2] wx fun e w'=>e=.returned (.tuple #[.agg #[.bool q,.string u,.string z],.bool true])/\Below wx.heap.size wx w')
  (c1:∀ wx,Below w.heap.size w wx->Calls prog 71 #[.string B,.string z] wx (StrZ a wx))
  (c2:∀ wx,Below w.heap.size w wx->Calls prog 71 #[.string u,.string E] wx (StrZ b wx))
  (c3:∀ wx,Below w.heap.size w wx->Calls prog 69 #[.bool p,.string a,.bool (!q),.string b] wx fun e w'=>e=.returned (.tuple #[.bool s,.string c])/\Below wx.heap.size wx w') :
  Calls prog 44 #[.string s1,.string s2] w (IntEnd v w):=by
 have S:=qh c0;clear c0;have L:=qh G;clear G;have Q:=qh c1;clear c1;have T:=qh c2;clear c2;have Y:=qh c3;clear c3;have X:=qh D;clear D
 go_enter func44,ntmps44
 go_wp2_with fail
 refine(S.out _ (Below.refl _ _)).mono ?_;rintro e k ⟨rfl,r⟩;have a1:=qh r;have A:=qh (r.alloc r.size (.cells #[.bool p,.string B,.string E] 107));clear r
 go_wp2_with fail
 refine(L.out _ A.out).mono ?_;rintro e o ⟨rfl,l⟩;have F:=qh l;have g:=qh ((z0a A.out l).alloc (Nat.le_trans A.out.size l.size) (.cells #[.bool q,.string u,.string z] 107));clear l
 go_wp2_with fail
 obtain⟨W,H⟩:=exq (o.alloc (.cells #[.bool q,.string u,.string z] 107));have j:∀ d,Below W.heap.size W d->(Below W.heap.size W d /\
  d.cell? ⟨k.heap.size,0,none⟩=some (.bool p)/\d.cell? ⟨k.heap.size,1,none⟩=some (.string B)/\d.cell? ⟨k.heap.size,2,none⟩=some (.string E) /\
  d.cell? ⟨o.heap.size,0,none⟩=some (.bool q)/\d.cell? ⟨o.heap.size,1,none⟩=some (.string u)/\d.cell? ⟨o.heap.size,2,none⟩=some (.string z)):=by
  intro d h;subst H;have z1:=F.out.size;rw[World.size_alloc] at z1;have K:∀ (i:Nat) (v:Value),(k.alloc (.cells #[.bool p,.string B,.string E] 107)).cell? ⟨k.heap.size,i,none⟩=some v->d.cell? ⟨k.heap.size,i,none⟩=some v:=by
   intro i v D;refine(h.cell (p:=⟨k.heap.size,i,none⟩) (by rw[World.size_alloc];show k.heap.size<_;omega)).trans ?_;rw[World.cell?_alloc_past (hn:=by omega)];exact(F.out.cell (p:=⟨k.heap.size,i,none⟩) (by rw[World.size_alloc];show k.heap.size<_;omega)).trans D
  have J:∀ (i:Nat) (v:Value),(o.alloc (.cells #[.bool q,.string u,.string z] 107)).cell? ⟨o.heap.size,i,none⟩=some v->d.cell? ⟨o.heap.size,i,none⟩=some v:=by
   intro i v D;exact(h.cell (p:=⟨o.heap.size,i,none⟩) (by rw[World.size_alloc];show o.heap.size<_;omega)).trans D
  exact⟨h,K 0 _ (by simp[go_sem]),K 1 _ (by simp[go_sem]),K 2 _ (by simp[go_sem]),J 0 _ (by simp[go_sem]),J 1 _ (by simp[go_sem]),J 2 _ (by simp[go_sem])⟩
 rw[<- H];rw[<- H] at g;have P:=qh j;clear j;have R:=qh H;clear H;have U:Below W.heap.size W W.drew:=(Below.refl _ _).drew
 go_region_held2 (fun d=>Below W.heap.size W d /\
  d.cell? ⟨k.heap.size,0,none⟩=some (.bool p)/\d.cell? ⟨k.heap.size,1,none⟩=some (.string B)/\d.cell? ⟨k.heap.size,2,none⟩=some (.string E) /\
  d.cell? ⟨o.heap.size,0,none⟩=some (.bool q)/\d.cell? ⟨o.heap.size,1,none⟩=some (.string u)/\d.cell? ⟨o.heap.size,2,none⟩=some (.string z))
  (first|exact P.out _ (by assumption)|exact P.out _ (Below.refl _ _).drew)
  (first
   | (go_at_call_of 71 (Value.string B);refine(Q.out _ (z0a g.out (by assumption))).mono ?_;rintro e k ⟨rfl,r⟩;have Z:=z0a (by assumption) r)
   | (go_at_call_of 71 (Value.string u);refine(T.out _ (z0a g.out (by assumption))).mono ?_;rintro e o ⟨rfl,l⟩;have a2:=z0a (by assumption) l)
   | (go_at_call 70;refine(z2p _ _).mono ?_;rintro e w' ⟨rfl,rfl⟩)
   | (go_at_call 69;refine(Y.out _ (z0a g.out (by assumption))).mono ?_;rintro e w3 ⟨rfl,N⟩;have I:=z0a (by assumption) N))
 have C:=qh I
 rcases X.out with ⟨O,rfl⟩|⟨O,rfl,rfl⟩|⟨O,rfl,rfl⟩
 ·go_wp2_with fail
  go_ret;exact⟨rfl,z0a g.out C.out⟩
 ·go_wp2_with fail
  go_ret;exact⟨rfl,z0a g.out C.out⟩
 go_wp2_with fail
 go_ret;exact⟨rfl,z0a g.out C.out⟩
theorem x2n (n:Nat):((str (dec n)).toList==[48])=decide (n=0):=by
 rw[str_eq,decide_eq_decide];exact⟨fun h=>z5v (h.trans z3w.symm),fun h=>by rw[h,z3w]⟩
theorem y0c (a b:ByteArray) (w:World) (D:a.size<=9223372036854775807) (hb:b.size<=9223372036854775807) (E:Tab w) :
  Calls prog 44 #[.string a,.string b] w (IntEnd (z3q a b) w):=by
 have u:∀ c,Below w.heap.size w c->Tab c:=fun c h=>E.below h (Nat.le_refl _);have c1:=fun c (h:Below w.heap.size w c)=>z8z a c D (u c h);have c2:=fun c (h:Below w.heap.size w c)=>z8z b c hb (u c h);cases l:prs a with
 | none =>
  have p:z3q a b=0:=by unfold z3q;rw[l]
  rw[p];simp only[l,Option.isSome,prsV] at c1;generalize (prs b).isSome=o at c2;obtain⟨r,x,y,F⟩:=y9w (prs b);rw[F] at c2;have B:=qh c1;clear c1;have C:=qh c2;clear c2 p l F E D hb u;unfold NoNum nvS at B
  go_enter func44,ntmps44
  go_wp2_with fail
  refine(B.out _ (Below.refl _ _)).mono ?_;rintro e K ⟨rfl,d⟩;have j:=qh (d.alloc d.size (.cells #[.bool false,.string ⟨#[]⟩,.string ⟨#[]⟩] 107));clear d
  go_wp2_with fail
  refine(C.out _ j.out).mono ?_;rintro e H ⟨rfl,i⟩;have g:=qh (z0a j.out i);clear i
  go_wp2_with fail
  go_ret;exact⟨rfl,g.out.alloc g.out.size _⟩
 | some x =>
  simp only[l,Option.isSome,prsV] at c1;cases v:prs b with
  | none =>
   have p:z3q a b=0:=by unfold z3q;rw[l,v]
   rw[p];simp only[v,Option.isSome,prsV] at c2;have B:=qh c1;clear c1;have C:=qh c2;clear c2 p l v E D hb u;unfold NoNum nvS at C;unfold nv nvS at B
   go_enter func44,ntmps44
   go_wp2_with fail
   refine(B.out _ (Below.refl _ _)).mono ?_;rintro e K ⟨rfl,d⟩;have j:=qh (d.alloc d.size (.cells #[.bool (negQ x),.string (str (dec x.num.natAbs)),.string (str (dec x.den))] 107));clear d
   go_wp2_with fail
   refine(C.out _ j.out).mono ?_;rintro e H ⟨rfl,i⟩;have g:=qh (z0a j.out i);clear i
   go_wp2_with fail
   go_ret;exact⟨rfl,g.out.alloc g.out.size _⟩
  | some y =>
   have A:=(z3f l).2;have z:=(z3f v).2;have p:z3q a b=cmpQ x y:=by unfold z3q;rw[l,v]
   rw[p];simp only[v,Option.isSome,prsV] at c2;have I:fits (x.num.natAbs*y.den):=z3c A.1 z.2;have J:fits (y.num.natAbs*x.den):=z3c z.1 A.2;have f3:fits (x.num.natAbs*y.den+y.num.natAbs*x.den):=y4c A.1 z.2 z.1 A.2;refine u2j (negQ x) (negQ y) _ _ _ _ (str (dec (x.num.natAbs*y.den))) (str (dec (y.num.natAbs*x.den))) (str (dec (sumF (negQ x) (x.num.natAbs*y.den) (!negQ y) (y.num.natAbs*x.den)).2)) (sumF (negQ x) (x.num.natAbs*y.den) (!negQ y) (y.num.natAbs*x.den)).1 (cmpQ x y) a b w ?_ c1 c2
    (fun c h=>y1c _ _ c (z5t A) (z3p z) I (u c h)) (fun c h=>y1c _ _ c (z5t z) (z3p A) J (u c h))
    (fun c h=>y7b (negQ x) (!negQ y) _ _ c f3 (u c h))
   rw[v8u x y,x2n];generalize sumF (negQ x) (x.num.natAbs*y.den) (!negQ y) (y.num.natAbs*x.den)=r;obtain⟨s,k⟩:=r;by_cases G:k=0
   ·left;simp[G]
   right;cases s<;>simp[G]
end
section
open Go.RowKit
abbrev fv (g:FuncId):Value:=.func (.func g) #[] #[]
def ring0:Array Value:=#[.string ⟨#[]⟩,.string ⟨#[]⟩,.bool false,.nilFunc,.nilFunc,.nilFunc,.nilFunc,.nilFunc]
def ring1:Array Value:=#[.string ⟨#[105,110,102]⟩,.string ⟨#[48]⟩,.bool true,fv 155,fv 34,fv 156,fv 91,fv 91]
def ring2:Array Value:=#[.string ⟨#[48]⟩,.string ⟨#[49]⟩,.bool false,fv 157,fv 158,fv 159,fv 160,fv 161]
def ring3:Array Value:=#[.string ⟨#[48]⟩,.string ⟨#[49]⟩,.bool false,fv 155,fv 158,fv 162,fv 160,fv 161]
def z8h:Array Value:=#[.string ⟨#[]⟩,.string ⟨#[]⟩,.bool false,.nilFunc,.nilFunc,.nilFunc,.nilFunc,.nilFunc,
 .string ⟨#[105,110,102]⟩,.string ⟨#[48]⟩,.bool true,fv 155,fv 34,fv 156,fv 91,fv 91,
 .string ⟨#[48]⟩,.string ⟨#[49]⟩,.bool false,fv 157,fv 158,fv 159,fv 160,fv 161,
 .string ⟨#[48]⟩,.string ⟨#[49]⟩,.bool false,fv 155,fv 158,fv 162,fv 160,fv 161]
theorem z5q {P:Program} {g:Array Oper} {d:List Oper} {i:Oper} {a:Act} {w:World} {Q:Exit->Act->World->Prop} (j:i.guard=none) (t:TypeId) (x y:Operand) (o:i.op=.store t x y)
  (c c':Array Value) (l:a.eval x=.pointer (some ⟨w.heap.size,0,none⟩)) (k:a.eval y=.agg c') (hi:(P.info? t).map (·.size)=some c'.size) (s:c.size=c'.size) (p:c'.all (·.oneCell')=true)
  (h:wpList P g Q d (a.put i.dst undef) (w.alloc (.cells c' t))):wpList P g Q (i::d) a (w.alloc (.cells c t)) :=
 wpList_plain j fun _ r=>by
  unfold Oper.wp execOp;simp only[o,l,k,Instr.storeAt,Instr.sureAddr,Sem.run_bind,Sem.run_pure,Result.andThen_ok,run_storeVar_new w t c c' hi s p];exact r _ _ h
theorem z9e {fn:Func} {p:Tmp} {d:TypeId} (h:fn.results=#[.cell p d]) (c:Array Value) (P:Program) (w:World) :
  (results fn c).run P w=((asAddr (c.getD p undef)).run P w).andThen fun a w₁=>(loadVar d a).run P w₁:=by
 simp only[results,h];simp[Sem.run_bind,Result.andThen]
theorem y5c (w:World):Calls prog 120 #[] w fun e w'=>e=.returned (.agg z8h)/\Below w.heap.size w w':=by
 have hi:(prog.info? 156).map (·.size)=some z8h.size:=by kernel_rfl
 have d:z8h.all (·.oneCell')=true:=by decide +kernel
 have c:=qh hi;clear hi;have g:=qh d;clear d
 go_enter func120,ntmps120
 go_wp2_with (refine z5q rfl 156 (.tmp 0) (.tmp 4) rfl _ z8h rfl rfl c.out rfl g.out ?_)
 refine bodyPost_ret (v:=.agg z8h) ?_ rfl ⟨rfl,(Below.refl _ _).alloc (Nat.le_refl _) _⟩;rw[z9e rfl];exact run_loadVar_new w 156 z8h 4 116 underlying156 c.out
theorem there8 {w g:World} {c:Array Value} {t:TypeId} (i:c.size=8) (h:Below (w.alloc (.cells c t)).heap.size (w.alloc (.cells c t)) g):g.there w.heap.size 0 8:=by
 intro j k;have d:w.heap.size<(w.alloc (.cells c t)).heap.size:=by simp
 have e:=h.cell (p:=⟨w.heap.size,0+j,none⟩) d;have f:=h.frozen (p:=⟨w.heap.size,0+j,none⟩) d;rw[e,f]
 constructor
 ·rw[cell_of_row _ _ (0+j) c t (0,0) (heap_alloc_last w _)];simp[i,k]
 exact World.frozen?_alloc_new w c t _
def OfEnd (r:Array Value) (b:Bool) (w:World) (e:Ending) (w':World):Prop:=e=.returned (.tuple #[.agg r,.bool b])/\Below w.heap.size w w'
theorem z8b {fn:Func} {p u:Tmp} (h:fn.results=#[.cell p 116,.tmp u]) (c:Array Value) (W:World) (b:Nat) (r:List Value) (v:Value) (g:c.getD p undef=.pointer (some ⟨b,0,none⟩)) (i:c.getD u undef=v)
  (j:r.length=8) (d:W.rangeAt b 0 r):(results fn c).run prog W=.ok (.tuple #[.agg r.toArray,v]) W:=by
 rw[results_cell_tmp h,g,i];have hi:(prog.info? 116).map (·.size)=some r.length:=by rw[j];kernel_rfl
 have:=run_loadVar_mid (P:=prog) W b 0 116 r _ d underlying116 rfl hi;show ((loadVar 116 ⟨b,0,none⟩).run prog W).andThen _=_;rw[this];rfl
theorem x1d (w:World) (c:Array Value) (t:TypeId):(w.alloc (.cells c t)).rangeAt w.heap.size 0 c.toList:=by
 intro j v d;rw[cell_of_row _ _ (0+j) c t (0,0) (heap_alloc_last w _)];rw[Nat.zero_add];rw[Array.getElem?_toList] at d;exact d
theorem v3u (k:Int) (w:World) (c:k<1\/3<k):Calls prog 73 #[.int .i64 k] w (OfEnd ring0 false w):=by
 have hi:(prog.info? 116).map (·.size)=some ring0.size:=by kernel_rfl
 have g:ring0.all (·.oneCell')=true:=by decide +kernel
 have h:=qh hi;clear hi;have d:=qh g;clear g
 rcases c with c|c
 ·go_enter func73,ntmps73
  go_wp2_with (refine z5q rfl 116 (.tmp 2) (.tmp 10) rfl _ ring0 rfl rfl h.out rfl d.out ?_)
  exact bodyPost_ret (z8b rfl _ _ w.heap.size ring0.toList (.bool false) rfl rfl rfl (x1d w ring0 _)) rfl ⟨rfl,(Below.refl _ _).alloc (Nat.le_refl _) _⟩
 have i:decide (k<1)=false:=by rw[decide_eq_false_iff_not];omega
 go_enter func73,ntmps73
 go_wp2_with (refine z5q rfl 116 (.tmp 2) (.tmp 10) rfl _ ring0 rfl rfl h.out rfl d.out ?_)
 exact bodyPost_ret (z8b rfl _ _ w.heap.size ring0.toList (.bool false) rfl rfl rfl (x1d w ring0 _)) rfl ⟨rfl,(Below.refl _ _).alloc (Nat.le_refl _) _⟩
end
section
open Go.RowKit
theorem z9b {B b:Nat} {a:World}:∀ {w:World},Below B a w->B<=b->∀ (vs:List Value) (o:Nat),Below B a (w.setCells b o vs)
 | _,h,_,[],_=>h
 | _,h,hB,v::vs,o=>z9b (h.setCell (p:=⟨b,o,none⟩) hB v) hB vs (o+1)
theorem v3s (k:Int) (o R:Array Value) (w:World) (E:1<=k) (B:k<=3) (d:R.size=8) (u:R.all (·.oneCell')=true) (v:∀ wx,Calls prog 120 #[] wx fun e w'=>e=.returned (.agg o)/\Below wx.heap.size wx w')
  (H:∀ w,(Instr.index 156 (.agg o) (.int .i64 k)).run prog w=.ok (.agg R) w):Calls prog 73 #[.int .i64 k] w (OfEnd R true w):=by
 have hi:(prog.info? 116).map (·.size)=some R.size:=by rw[d];kernel_rfl
 have G:=qh hi;clear hi;have D:=qh u;clear u;have C:=qh v;clear v;have r:=qh d;clear d;have A:decide (k<1)=false:=by rw[decide_eq_false_iff_not];omega
 have z:decide (3<k)=false:=by rw[decide_eq_false_iff_not];omega
 have i:Below w.heap.size w (w.alloc (.cells ring0 116)):=(Below.refl _ _).alloc (Nat.le_refl _) _;have h:=qh i;clear i
 go_enter func73,ntmps73
 go_wp2_with fail
 refine(C.out _).mono ?_;rintro e F ⟨rfl,j⟩;have l:=qh j;clear j;have p:=there8 rfl l.out;rw[<- r.out] at p;have s:=qh p;clear p
 go_wp2_with (refine wpList_store_mid rfl 116 (.tmp 2) (.tmp 13) rfl w.heap.size 0 R rfl rfl s.out G.out D.out ?_)
 have g:=World.rangeAt_setCells_same F w.heap.size 0 R.toList (by rw[Array.length_toList];exact s.out);have c:=z8b (fn:=f73) rfl #[.int .i64 k,undef,.pointer (some ⟨w.heap.size,0,none⟩),.bool true,.int .i64 k,.bool false,.bool false,.int .i64 k,.bool false,.bool false,undef,.agg o,.int .i64 k,.agg R] _ w.heap.size R.toList (.bool true) rfl rfl (by rw[Array.length_toList];exact r.out) g;rw[Array.toArray_toList] at c;exact bodyPost_ret c rfl ⟨rfl,z9b (h.out.trans (l.out.mono h.out.size)) (Nat.le_refl _) _ _⟩
theorem u0j (w:World):(Instr.index 156 (.agg z8h) (.int .i64 1)).run prog w=.ok (.agg ring1) w:=by kernel_rfl
theorem of_1 (w:World):Calls prog 73 #[.int .i64 1] w (OfEnd ring1 true w) :=
 v3s 1 z8h ring1 w (by decide) (by decide) rfl (by decide +kernel) y5c u0j
theorem u1v (w:World):(Instr.index 156 (.agg z8h) (.int .i64 2)).run prog w=.ok (.agg ring2) w:=by kernel_rfl
theorem of_2 (w:World):Calls prog 73 #[.int .i64 2] w (OfEnd ring2 true w) :=
 v3s 2 z8h ring2 w (by decide) (by decide) rfl (by decide +kernel) y5c u1v
theorem u2s (w:World):(Instr.index 156 (.agg z8h) (.int .i64 3)).run prog w=.ok (.agg ring3) w:=by kernel_rfl
theorem of_3 (w:World):Calls prog 73 #[.int .i64 3] w (OfEnd ring3 true w) :=
 v3s 3 z8h ring3 w (by decide) (by decide) rfl (by decide +kernel) y5c u2s
end
section
open Go.RowKit
theorem z1u:infS.toList=[105,110,102]:=by rw[Lib.toList_data];rfl
theorem z2n:lowS.toList=[45,105,110,102]:=by rw[Lib.toList_data];rfl
theorem z7n {q:Rat} (h:fitQ q):((txt q).toList==[105,110,102])=false:=by
 refine z2k (l:=[105,110,102]) (fun e=>?_);have:=z1e h;rw[e] at this;have c:=y0z;unfold infS at c;rw[show str [105,110,102]=(⟨#[105,110,102]⟩:ByteArray) from rfl,c] at this;simp at this
theorem y3a {q:Rat} (h:fitQ q):((txt q).toList==[45,105,110,102])=false:=by
 refine z2k (l:=[45,105,110,102]) (fun e=>?_);have:=z1e h;rw[e] at this;have c:=y2x;unfold lowS at c;rw[show str [45,105,110,102]=(⟨#[45,105,110,102]⟩:ByteArray) from rfl,c] at this;simp at this
theorem x0x {x y:Rat} (c:fitQ x) (d:fitQ y):z3q (txt x) (txt y)=cmpQ x y:=by unfold z3q;rw[z1e c,z1e d]
theorem y3s (v u:V) (w:World) (A:fitV v) (r:fitV u) (R:Tab w):Calls prog 75 #[.string (vtxt v),.string (vtxt u)] w (IntEnd (cmpV v u) w):=by
 have F:∀ (a b:ByteArray) (z:Int) (j:z=0/\a=b\/a≠b) (c:a≠b->a≠infS->a≠lowS->b≠infS->b≠lowS->Calls prog 44 #[.string a,.string b] w (IntEnd z w))
   (p:a≠b->((a=lowS\/b=infS)/\z=-1)\/(a≠lowS/\b≠infS/\(b=lowS\/a=infS)/\z=1)\/(a≠lowS/\b≠infS/\b≠lowS/\a≠infS)),
   Calls prog 75 #[.string a,.string b] w (IntEnd z w):=by
  intro a b z j c p
  rcases j with ⟨rfl,rfl⟩|j
  ·clear c p
   go_enter func75,ntmps75
   go_wp2;go_ret;exact⟨rfl,Below.refl _ _⟩
  have Q:(a.toList==b.toList)=false:=by rw[beq_eq_false_iff_ne];exact x0j j
  have N:∀ s:ByteArray,s≠lowS->(s.toList==[45,105,110,102])=false:=fun s h=>z2k (l:=[45,105,110,102]) h;have O:∀ s:ByteArray,s≠infS->(s.toList==[105,110,102])=false:=fun s h=>z2k (l:=[105,110,102]) h;have D:=qh N;clear N;have I:=qh O;clear O
  rcases p j with ⟨d,rfl⟩|⟨d,o,k,rfl⟩|⟨d,o,k,B⟩
  ·clear c p;by_cases i:a=lowS
   ·have H:(a.toList==[45,105,110,102])=true:=by rw[i,z2n];rfl
    clear j d i
    go_enter func75,ntmps75
    go_wp2;go_ret;exact⟨rfl,Below.refl _ _⟩
   have H:=D.out a i;have e2:(b.toList==[105,110,102])=true:=by rw[d.resolve_left i,z1u];rfl
   clear j d i
   go_enter func75,ntmps75
   go_wp2;go_ret;exact⟨rfl,Below.refl _ _⟩
  ·clear c p;have H:=D.out a d;have e2:=I.out b o;by_cases g:b=lowS
   ·have P:(b.toList==[45,105,110,102])=true:=by rw[g,z2n];rfl
    cases K:(a.toList==[105,110,102])
    all_goals
     clear j d o k g
     go_enter func75,ntmps75
     go_wp2;go_ret;exact⟨rfl,Below.refl _ _⟩
   have P:=D.out b g;have K:(a.toList==[105,110,102])=true:=by rw[k.resolve_left g,z1u];rfl
   clear j d o k g
   go_enter func75,ntmps75
   go_wp2;go_ret;exact⟨rfl,Below.refl _ _⟩
  have H:=D.out a d;have e2:=I.out b o;have P:=D.out b k;have K:=I.out a B;have C:=qh (c j B d o k);clear c p j d o k B
  go_enter func75,ntmps75
  go_wp2_with fail
  refine C.out.mono ?_;rintro e T ⟨rfl,hb⟩;have S:=qh hb;clear hb;go_wp2;go_ret;exact⟨rfl,S.out⟩
 refine F _ _ _ ?_ ?_ ?_
 ·by_cases h:v=u
  ·subst h;exact .inl ⟨(y1k v v).2 rfl,rfl⟩
  exact .inr (fun e=>h (x0a A r e))
 ·intro _ d o k B;cases v with
  | inf=>exact absurd rfl d
  | low=>exact absurd rfl o
  | fin x =>
   cases u with
   | inf=>exact absurd rfl k
   | low=>exact absurd rfl B
   | fin y =>
    have L:=y0c (txt x) (txt y) w (by have:=z3k A;omega) (by have:=z3k r;omega) R;rw[x0x A r] at L;exact L
 intro h;have E:infS≠lowS:=by decide
 have J:∀ q:Rat,fitQ q->txt q≠infS:=fun q G e=>by have:=z7n G;rw[e,z1u] at this;simp at this
 have fl:∀ q:Rat,fitQ q->txt q≠lowS:=fun q G e=>by have:=y3a G;rw[e,z2n] at this;simp at this
 cases v with
 | inf =>
  cases u with
  | inf=>exact absurd rfl h
  | low=>exact .inr (.inl ⟨E,Ne.symm E,.inl rfl,rfl⟩)
  | fin y=>exact .inr (.inl ⟨E,J y r,.inr rfl,rfl⟩)
 | low =>
  cases u with
  | inf=>exact .inl ⟨.inl rfl,rfl⟩
  | low=>exact absurd rfl h
  | fin y=>exact .inl ⟨.inl rfl,rfl⟩
 | fin x =>
  cases u with
  | inf=>exact .inl ⟨.inr rfl,rfl⟩
  | low=>exact .inr (.inl ⟨fl x A,Ne.symm E,.inl rfl,rfl⟩)
  | fin y=>exact .inr (.inr ⟨fl x A,J y r,fl y r,J x A⟩)
end
end Go.Proofs.YtjekapjbigfkbaaGreatDoor
