/- Parts of a proof: MP RatE RatC RatF RatG MS1. -/
import Derived.Test.YteappjogmnogcaaGreatDoorW03
import Derived.Test.YteappjogmnogcaaGreatDoorW00
import Derived.Laws.EntriesVeiled
import Derived.Deep.WholeRow
import Derived.Deep.MidRow
import Derived.Laws.ResultCell
namespace Go.Proofs.YteappjogmnogcaaGreatDoor
set_option maxRecDepth 100000
set_option linter.unusedSimpArgs false
set_option linter.unusedVariables false
set_option linter.unusedSectionVars false
set_option maxHeartbeats 16000000
open Go Tryz
section
open Go.RowKit
theorem z0u {fn:Func} {p u:Tmp} (h:fn.results=#[.cell p 189,.tmp u]) (c:Array Value) (W:World) (n:Nat) (r:Bool) (x y:ByteArray) (o:Bool)
  (i:c.getD p undef=.pointer (some ⟨n,0,none⟩)) (j:c.getD u undef=.bool o) (c0:W.cell? ⟨n,0,none⟩=some (.bool r)) (c1:W.cell? ⟨n,1,none⟩=some (.string x)) (c2:W.cell? ⟨n,2,none⟩=some (.string y)) :
  (results fn c).run prog W=.ok (.tuple #[.agg #[.bool r,.string x,.string y],.bool o]) W:=by
 have d:c[p]?.getD undef=.pointer (some ⟨n,0,none⟩):=by rw[<- i];simp
 have g:c[u]?.getD undef=.bool o:=by rw[<- j];simp
 simp only[results,h];simp[d,g,go_sem,c0,c1,c2]
theorem size49:(⟨#[49]⟩:ByteArray).size=1:=rfl
def NoNum:Value:=nvS false ⟨#[]⟩ ⟨#[]⟩
def okB (neg frac vn vd:Bool) (n d g:ByteArray):Bool:=vn&&vd&&decide (n.size<=400)&&decide (d.size<=400)&&!(neg&&(n.toList==[48]))&&!(frac&&(d.toList==[48]||d.toList==[49]))&&(g.toList==[49])
def PairQ (neg:Bool) (n d:ByteArray) (ok:Bool) (w:World) (e:Ending) (w':World):Prop:=e=.returned (.tuple #[if ok then nvS neg n d else NoNum,.bool ok])/\Below w.heap.size w w'
theorem v2s (s r n W d g:ByteArray) (neg D I J:Bool) (w:World)
  (F:d=if D then W else ⟨#[49]⟩) (hn:n.size<=9223372036854775807) (K:d.size<=9223372036854775807)
  (c1:∀ wx,Below w.heap.size w wx->Calls prog 210 #[.string s,.string ⟨#[45]⟩] wx fun e w'=>e=.returned (.tuple #[.string r,.bool neg])/\wx=w')
  (c2:∀ wx,Below w.heap.size w wx->Calls prog 211 #[.string r,.string ⟨#[47]⟩] wx fun e w'=>e=.returned (.tuple #[.string n,.string W,.bool D])/\Below wx.heap.size wx w')
  (c3:∀ wx,Calls prog 204 #[.string n] wx fun e w'=>e=.returned (.bool I)/\wx=w')
  (c4:∀ wx,Calls prog 204 #[.string d] wx fun e w'=>e=.returned (.bool J)/\wx=w')
  (c5:I=true->J=true->∀ wx,Below w.heap.size w wx->Calls prog 208 #[.string n,.string d] wx (StrZ g wx)) :
  Calls prog 191 #[.string s] w (PairQ neg n d (okB neg D I J n d g) w):=by
 have C1:=qh c1;clear c1;have Z:=qh c2;clear c2;have Y:=qh c3;clear c3;have X:=qh c4;clear c4;have N:=qh c5;clear c5;have L:Below w.heap.size w (w.alloc (.cells #[.bool false,.string ⟨#[]⟩,.string ⟨#[]⟩] 189)):=blr.alloc nlr _;have E:=qh L;clear L;have HN:=qh hn;clear hn;have S:=qh K;clear K;have O:=qh F;clear F;unfold PairQ NoNum nvS;obtain⟨z,G⟩:∃ b,b=okB neg D I J n d g:=⟨_,rfl⟩;rw[<- G];have i:=qh G;clear G
 go_enter func191,ntmps191
 go_wp2_with fail
 refine(C1.out _ E.out).mono ?_;rintro e w1 ⟨rfl,rfl⟩
 go_wp2_with fail
 refine(Z.out _ E.out).mono ?_;rintro e w2 ⟨rfl,H⟩;have h:=qh H;have c:=qh (E.out.trans (H.mono E.out.size));clear H;cases D
 ·have F:=O.out;simp only[Bool.false_eq_true,if_false] at F;subst F;clear S O
  go_wp2_with fail
  refine(Y.out _).mono ?_;rintro e w' ⟨rfl,rfl⟩;cases I
  ·-- no numerator
   have hf:z=false:=by rw[i.out];first|(simp[okB, *];done)|simp[okB, *,size49]
   subst hf;obtain⟨l,j,m,C,A,B,k⟩:=res3 h.out
   go_wp2_with fail
   obtain⟨s0,s1,s2⟩:=set3 (a':=.bool false) (b':=.string ⟨#[]⟩) (c':=.string ⟨#[]⟩) l j m;exact bodyPost_ret (z0u rfl _ _ w.heap.size false ⟨#[]⟩ ⟨#[]⟩ false rfl rfl s0 s1 s2) rfl ⟨rfl,((c.out.setCell nlr _).setCell nlr _).setCell nlr _⟩
  go_wp2_with fail
  refine(X.out _).mono ?_;rintro e w' ⟨rfl,rfl⟩;cases J
  ·-- no denominator
   have hf:z=false:=by rw[i.out];first|(simp[okB, *];done)|simp[okB, *,size49]
   subst hf;obtain⟨l,j,m,C,A,B,k⟩:=res3 h.out
   go_wp2_with fail
   obtain⟨s0,s1,s2⟩:=set3 (a':=.bool false) (b':=.string ⟨#[]⟩) (c':=.string ⟨#[]⟩) l j m;exact bodyPost_ret (z0u rfl _ _ w.heap.size false ⟨#[]⟩ ⟨#[]⟩ false rfl rfl s0 s1 s2) rfl ⟨rfl,((c.out.setCell nlr _).setCell nlr _).setCell nlr _⟩
  by_cases h1:n.size<=400
  ·have P:(n.size:Int)<=400:=by omega
   cases neg
   ·-- no sign
    go_wp2_with fail
    refine(N.out (by trivial) (by trivial) _ c.out).mono ?_;rintro e U ⟨rfl,o⟩;have u:=qh (h.out.trans (o.mono h.out.size));have p:=qh (c.out.trans (o.mono c.out.size));clear o;cases R:(g.toList==[49])
    ·-- no
     have hf:z=false:=by rw[i.out];first|(simp[okB, *];done)|simp[okB, *,size49]
     subst hf;obtain⟨l,j,m,C,A,B,k⟩:=res3 u.out
     go_wp2_with fail
     obtain⟨s0,s1,s2⟩:=set3 (a':=.bool false) (b':=.string ⟨#[]⟩) (c':=.string ⟨#[]⟩) l j m;exact bodyPost_ret (z0u rfl _ _ w.heap.size false ⟨#[]⟩ ⟨#[]⟩ false rfl rfl s0 s1 s2) rfl ⟨rfl,((p.out.setCell nlr _).setCell nlr _).setCell nlr _⟩
    have hf:z=true:=by rw[i.out];first|(simp[okB, *];done)|simp[okB, *,size49]
    subst hf;obtain⟨l,j,m,C,A,B,k⟩:=res3 u.out
    go_wp2_with fail
    obtain⟨s0,s1,s2⟩:=set3 (a':=.bool false) (b':=.string n) (c':=.string ⟨#[49]⟩) l j m;exact bodyPost_ret (z0u rfl _ _ w.heap.size false n ⟨#[49]⟩ true rfl rfl s0 s1 s2) rfl ⟨rfl,((p.out.setCell nlr _).setCell nlr _).setCell nlr _⟩
   cases hz:(n.toList==[48])
   ·-- a sign
    go_wp2_with fail
    refine(N.out (by trivial) (by trivial) _ c.out).mono ?_;rintro e U ⟨rfl,o⟩;have u:=qh (h.out.trans (o.mono h.out.size));have p:=qh (c.out.trans (o.mono c.out.size));clear o;cases R:(g.toList==[49])
    ·-- no
     have hf:z=false:=by rw[i.out];first|(simp[okB, *];done)|simp[okB, *,size49]
     subst hf;obtain⟨l,j,m,C,A,B,k⟩:=res3 u.out
     go_wp2_with fail
     obtain⟨s0,s1,s2⟩:=set3 (a':=.bool false) (b':=.string ⟨#[]⟩) (c':=.string ⟨#[]⟩) l j m;exact bodyPost_ret (z0u rfl _ _ w.heap.size false ⟨#[]⟩ ⟨#[]⟩ false rfl rfl s0 s1 s2) rfl ⟨rfl,((p.out.setCell nlr _).setCell nlr _).setCell nlr _⟩
    have hf:z=true:=by rw[i.out];first|(simp[okB, *];done)|simp[okB, *,size49]
    subst hf;obtain⟨l,j,m,C,A,B,k⟩:=res3 u.out
    go_wp2_with fail
    obtain⟨s0,s1,s2⟩:=set3 (a':=.bool true) (b':=.string n) (c':=.string ⟨#[49]⟩) l j m;exact bodyPost_ret (z0u rfl _ _ w.heap.size true n ⟨#[49]⟩ true rfl rfl s0 s1 s2) rfl ⟨rfl,((p.out.setCell nlr _).setCell nlr _).setCell nlr _⟩
   have hf:z=false:=by rw[i.out];first|(simp[okB, *];done)|simp[okB, *,size49]
   subst hf;obtain⟨l,j,m,C,A,B,k⟩:=res3 h.out
   go_wp2_with fail
   obtain⟨s0,s1,s2⟩:=set3 (a':=.bool false) (b':=.string ⟨#[]⟩) (c':=.string ⟨#[]⟩) l j m;exact bodyPost_ret (z0u rfl _ _ w.heap.size false ⟨#[]⟩ ⟨#[]⟩ false rfl rfl s0 s1 s2) rfl ⟨rfl,((c.out.setCell nlr _).setCell nlr _).setCell nlr _⟩
  have P:(400:Int)<(n.size:Int):=by omega
  have hf:z=false:=by rw[i.out];first|(simp[okB, *];done)|simp[okB, *,size49]
  subst hf;obtain⟨l,j,m,C,A,B,k⟩:=res3 h.out
  go_wp2_with fail
  obtain⟨s0,s1,s2⟩:=set3 (a':=.bool false) (b':=.string ⟨#[]⟩) (c':=.string ⟨#[]⟩) l j m;exact bodyPost_ret (z0u rfl _ _ w.heap.size false ⟨#[]⟩ ⟨#[]⟩ false rfl rfl s0 s1 s2) rfl ⟨rfl,((c.out.setCell nlr _).setCell nlr _).setCell nlr _⟩
 have F:=O.out;simp only[if_true] at F;subst F;clear O
 go_wp2_with fail
 refine(Y.out _).mono ?_;rintro e w' ⟨rfl,rfl⟩;cases I
 ·-- no numerator
  have hf:z=false:=by rw[i.out];first|(simp[okB, *];done)|simp[okB, *,size49]
  subst hf;obtain⟨l,j,m,C,A,B,k⟩:=res3 h.out
  go_wp2_with fail
  obtain⟨s0,s1,s2⟩:=set3 (a':=.bool false) (b':=.string ⟨#[]⟩) (c':=.string ⟨#[]⟩) l j m;exact bodyPost_ret (z0u rfl _ _ w.heap.size false ⟨#[]⟩ ⟨#[]⟩ false rfl rfl s0 s1 s2) rfl ⟨rfl,((c.out.setCell nlr _).setCell nlr _).setCell nlr _⟩
 go_wp2_with fail
 refine(X.out _).mono ?_;rintro e w' ⟨rfl,rfl⟩;cases J
 ·-- no denominator
  have hf:z=false:=by rw[i.out];first|(simp[okB, *];done)|simp[okB, *,size49]
  subst hf;obtain⟨l,j,m,C,A,B,k⟩:=res3 h.out
  go_wp2_with fail
  obtain⟨s0,s1,s2⟩:=set3 (a':=.bool false) (b':=.string ⟨#[]⟩) (c':=.string ⟨#[]⟩) l j m;exact bodyPost_ret (z0u rfl _ _ w.heap.size false ⟨#[]⟩ ⟨#[]⟩ false rfl rfl s0 s1 s2) rfl ⟨rfl,((c.out.setCell nlr _).setCell nlr _).setCell nlr _⟩
 by_cases h1:n.size<=400
 ·have P:(n.size:Int)<=400:=by omega
  by_cases h2:d.size<=400
  ·have g2:(d.size:Int)<=400:=by omega
   cases neg
   ·-- no sign
    cases Q:(d.toList==[48])
    ·cases T:(d.toList==[49])
     ·-- a denominator of its own
      go_wp2_with fail
      refine(N.out (by trivial) (by trivial) _ c.out).mono ?_;rintro e U ⟨rfl,o⟩;have u:=qh (h.out.trans (o.mono h.out.size));have p:=qh (c.out.trans (o.mono c.out.size));clear o;cases R:(g.toList==[49])
      ·-- no
       have hf:z=false:=by rw[i.out];first|(simp[okB, *];done)|simp[okB, *,size49]
       subst hf;obtain⟨l,j,m,C,A,B,k⟩:=res3 u.out
       go_wp2_with fail
       obtain⟨s0,s1,s2⟩:=set3 (a':=.bool false) (b':=.string ⟨#[]⟩) (c':=.string ⟨#[]⟩) l j m;exact bodyPost_ret (z0u rfl _ _ w.heap.size false ⟨#[]⟩ ⟨#[]⟩ false rfl rfl s0 s1 s2) rfl ⟨rfl,((p.out.setCell nlr _).setCell nlr _).setCell nlr _⟩
      have hf:z=true:=by rw[i.out];first|(simp[okB, *];done)|simp[okB, *,size49]
      subst hf;obtain⟨l,j,m,C,A,B,k⟩:=res3 u.out
      go_wp2_with fail
      obtain⟨s0,s1,s2⟩:=set3 (a':=.bool false) (b':=.string n) (c':=.string d) l j m;exact bodyPost_ret (z0u rfl _ _ w.heap.size false n d true rfl rfl s0 s1 s2) rfl ⟨rfl,((p.out.setCell nlr _).setCell nlr _).setCell nlr _⟩
     have hf:z=false:=by rw[i.out];first|(simp[okB, *];done)|simp[okB, *,size49]
     subst hf;obtain⟨l,j,m,C,A,B,k⟩:=res3 h.out
     go_wp2_with fail
     obtain⟨s0,s1,s2⟩:=set3 (a':=.bool false) (b':=.string ⟨#[]⟩) (c':=.string ⟨#[]⟩) l j m;exact bodyPost_ret (z0u rfl _ _ w.heap.size false ⟨#[]⟩ ⟨#[]⟩ false rfl rfl s0 s1 s2) rfl ⟨rfl,((c.out.setCell nlr _).setCell nlr _).setCell nlr _⟩
    have hf:z=false:=by rw[i.out];first|(simp[okB, *];done)|simp[okB, *,size49]
    subst hf;obtain⟨l,j,m,C,A,B,k⟩:=res3 h.out
    go_wp2_with fail
    obtain⟨s0,s1,s2⟩:=set3 (a':=.bool false) (b':=.string ⟨#[]⟩) (c':=.string ⟨#[]⟩) l j m;exact bodyPost_ret (z0u rfl _ _ w.heap.size false ⟨#[]⟩ ⟨#[]⟩ false rfl rfl s0 s1 s2) rfl ⟨rfl,((c.out.setCell nlr _).setCell nlr _).setCell nlr _⟩
   cases hz:(n.toList==[48])
   ·-- a sign
    cases Q:(d.toList==[48])
    ·cases T:(d.toList==[49])
     ·-- a denominator of its own
      go_wp2_with fail
      refine(N.out (by trivial) (by trivial) _ c.out).mono ?_;rintro e U ⟨rfl,o⟩;have u:=qh (h.out.trans (o.mono h.out.size));have p:=qh (c.out.trans (o.mono c.out.size));clear o;cases R:(g.toList==[49])
      ·-- no
       have hf:z=false:=by rw[i.out];first|(simp[okB, *];done)|simp[okB, *,size49]
       subst hf;obtain⟨l,j,m,C,A,B,k⟩:=res3 u.out
       go_wp2_with fail
       obtain⟨s0,s1,s2⟩:=set3 (a':=.bool false) (b':=.string ⟨#[]⟩) (c':=.string ⟨#[]⟩) l j m;exact bodyPost_ret (z0u rfl _ _ w.heap.size false ⟨#[]⟩ ⟨#[]⟩ false rfl rfl s0 s1 s2) rfl ⟨rfl,((p.out.setCell nlr _).setCell nlr _).setCell nlr _⟩
      have hf:z=true:=by rw[i.out];first|(simp[okB, *];done)|simp[okB, *,size49]
      subst hf;obtain⟨l,j,m,C,A,B,k⟩:=res3 u.out
      go_wp2_with fail
      obtain⟨s0,s1,s2⟩:=set3 (a':=.bool true) (b':=.string n) (c':=.string d) l j m;exact bodyPost_ret (z0u rfl _ _ w.heap.size true n d true rfl rfl s0 s1 s2) rfl ⟨rfl,((p.out.setCell nlr _).setCell nlr _).setCell nlr _⟩
     have hf:z=false:=by rw[i.out];first|(simp[okB, *];done)|simp[okB, *,size49]
     subst hf;obtain⟨l,j,m,C,A,B,k⟩:=res3 h.out
     go_wp2_with fail
     obtain⟨s0,s1,s2⟩:=set3 (a':=.bool false) (b':=.string ⟨#[]⟩) (c':=.string ⟨#[]⟩) l j m;exact bodyPost_ret (z0u rfl _ _ w.heap.size false ⟨#[]⟩ ⟨#[]⟩ false rfl rfl s0 s1 s2) rfl ⟨rfl,((c.out.setCell nlr _).setCell nlr _).setCell nlr _⟩
    have hf:z=false:=by rw[i.out];first|(simp[okB, *];done)|simp[okB, *,size49]
    subst hf;obtain⟨l,j,m,C,A,B,k⟩:=res3 h.out
    go_wp2_with fail
    obtain⟨s0,s1,s2⟩:=set3 (a':=.bool false) (b':=.string ⟨#[]⟩) (c':=.string ⟨#[]⟩) l j m;exact bodyPost_ret (z0u rfl _ _ w.heap.size false ⟨#[]⟩ ⟨#[]⟩ false rfl rfl s0 s1 s2) rfl ⟨rfl,((c.out.setCell nlr _).setCell nlr _).setCell nlr _⟩
   have hf:z=false:=by rw[i.out];first|(simp[okB, *];done)|simp[okB, *,size49]
   subst hf;obtain⟨l,j,m,C,A,B,k⟩:=res3 h.out
   go_wp2_with fail
   obtain⟨s0,s1,s2⟩:=set3 (a':=.bool false) (b':=.string ⟨#[]⟩) (c':=.string ⟨#[]⟩) l j m;exact bodyPost_ret (z0u rfl _ _ w.heap.size false ⟨#[]⟩ ⟨#[]⟩ false rfl rfl s0 s1 s2) rfl ⟨rfl,((c.out.setCell nlr _).setCell nlr _).setCell nlr _⟩
  have g2:(400:Int)<(d.size:Int):=by omega
  have hf:z=false:=by rw[i.out];first|(simp[okB, *];done)|simp[okB, *,size49]
  subst hf;obtain⟨l,j,m,C,A,B,k⟩:=res3 h.out
  go_wp2_with fail
  obtain⟨s0,s1,s2⟩:=set3 (a':=.bool false) (b':=.string ⟨#[]⟩) (c':=.string ⟨#[]⟩) l j m;exact bodyPost_ret (z0u rfl _ _ w.heap.size false ⟨#[]⟩ ⟨#[]⟩ false rfl rfl s0 s1 s2) rfl ⟨rfl,((c.out.setCell nlr _).setCell nlr _).setCell nlr _⟩
 have P:(400:Int)<(n.size:Int):=by omega
 have hf:z=false:=by rw[i.out];first|(simp[okB, *];done)|simp[okB, *,size49]
 subst hf;obtain⟨l,j,m,C,A,B,k⟩:=res3 h.out
 go_wp2_with fail
 obtain⟨s0,s1,s2⟩:=set3 (a':=.bool false) (b':=.string ⟨#[]⟩) (c':=.string ⟨#[]⟩) l j m;exact bodyPost_ret (z0u rfl _ _ w.heap.size false ⟨#[]⟩ ⟨#[]⟩ false rfl rfl s0 s1 s2) rfl ⟨rfl,((c.out.setCell nlr _).setCell nlr _).setCell nlr _⟩
end
section
open Go.RowKit
theorem str_eq {l r:List UInt8}:((str l).toList==r)=decide (l=r):=by
 rw[Lib.toList_data];show (bts (str l)==r)=_;rw[z2u,Bool.eq_iff_iff];simp
def prsV (o:Option Rat):Value:=match o with|some q=>nv q|none=>NoNum
theorem y7x (o:Option Rat):∃ r x y,prsV o=.agg #[.bool r,.string x,.string y]:=by cases o<;>exact⟨_,_,_,rfl⟩
theorem z7n (s:ByteArray) (w:World) (J:s.size<=9223372036854775807) (G:Tab w) :
  Calls prog 191 #[.string s] w fun e w' =>
   e=.returned (.tuple #[prsV (prs s),.bool (prs s).isSome])/\Below w.heap.size w w':=by
 have j:(z0z (bts s)).length<=s.size:=by
  unfold z0z;split
  ·rw[List.length_tail,z1p];omega
  rw[z1p];omega
 have F:(upTo (z0z (bts s))).length<=s.size:=Nat.le_trans (List.takeWhile_sublist _).length_le j;have D:(z6e (z0z (bts s))).length<=s.size:=by
  unfold z6e;rw[List.length_tail];have:=(List.dropWhile_sublist (· != 47) (l:=z0z (bts s))).length_le;omega
 have I:∀ c,Below w.heap.size w c->Tab c:=fun c h=>G.below h nlr;have m:str (denL (z0z (bts s)))=if hasS (z0z (bts s)) then str (if hasS (z0z (bts s)) then z6e (z0z (bts s)) else []) else ⟨#[49]⟩:=by
  unfold denL;cases hasS (z0z (bts s))<;>rfl
 have g:(str (denL (z0z (bts s)))).size<=9223372036854775807:=by
  rw[z1g];unfold denL;split
  ·omega
  show 1<=_;omega
 have H:=v2s s (str (z0z (bts s))) (str (upTo (z0z (bts s)))) (str (if hasS (z0z (bts s)) then z6e (z0z (bts s)) else [])) (str (denL (z0z (bts s))))
  (str (dec (Nat.gcd (num (upTo (z0z (bts s)))) (num (denL (z0z (bts s))))))) (z6i (bts s)) (hasS (z0z (bts s))) (z1u (upTo (z0z (bts s)))) (z1u (denL (z0z (bts s)))) w
  m (by rw[z1g];omega) g (fun c _=>v4n s c)
  (fun c _=>by
   have:=u1y (str (z0z (bts s))) c (by rw[z1g];omega);rw[z2u] at this;exact this)
  (fun c=>by
   have:=z3v (str (upTo (z0z (bts s)))) c (by rw[z1g];unfold maxLen;omega);unfold vld at this;rw[z2u] at this;exact this)
  (fun c=>by
   have:=z3v (str (denL (z0z (bts s)))) c (by unfold maxLen;omega);unfold vld at this;rw[z2u] at this;exact this)
  (fun z A c h=>by
   have u:=z9a z;have p:=z9a A;have B:fits (num (upTo (z0z (bts s)))):=by unfold fits;rw[u];exact(z4k z).2.1
   have C:fits (num (denL (z0z (bts s)))):=by unfold fits;rw[p];exact(z4k A).2.1
   have:=x9s _ _ c B C (I c h);rw[u,p] at this;exact this)
 refine H.mono ?_;rintro e w' ⟨rfl,hb⟩;refine⟨?_,hb⟩;have k:okB (z6i (bts s)) (hasS (z0z (bts s))) (z1u (upTo (z0z (bts s)))) (z1u (denL (z0z (bts s)))) (str (upTo (z0z (bts s)))) (str (denL (z0z (bts s)))) (str (dec (Nat.gcd (num (upTo (z0z (bts s)))) (num (denL (z0z (bts s)))))))
   = okP (z6i (bts s)) (upTo (z0z (bts s))) (denL (z0z (bts s))) (hasS (z0z (bts s))):=by
  unfold okB okP;rw[str_eq,str_eq,str_eq,str_eq,z1g,z1g];have E:∀ n,(decide (dec n=[49]))=decide (n=1):=fun n=>by
   rw[decide_eq_decide];exact⟨fun h=>z7j (h.trans z5j.symm),fun h=>by rw[h,z5j]⟩
  rw[E];have hb:∀ l r:List UInt8,(l==r)=decide (l=r):=fun l r=>by rw[Bool.eq_iff_iff];simp
  simp only[hb]
 rw[k];cases o:okP (z6i (bts s)) (upTo (z0z (bts s))) (denL (z0z (bts s))) (hasS (z0z (bts s)))
 ·have d:prs s=none:=by unfold prs prsL;rw[o];rfl
  rw[d];rfl
 have d:prs s=some (mkRat (sg (z6i (bts s)) (num (upTo (z0z (bts s))))) (num (denL (z0z (bts s))))):=by unfold prs prsL;rw[o];rfl
 have i:=(x0m d).2;rw[d];simp only[prsV,nv,i.sign,i.top,i.bot];rfl
end
section
open Go.RowKit
theorem v0q (g:FuncId) (p q:Bool) (u s A z:ByteArray) (E:Ending) (o l k:Nat) (w:World) (G:(∃ r x y,E=.returned (.agg #[.bool r,.string x,.string y]))\/E=PT)
  (P:∀ args w,(callFunc g args).run prog w=.ok (.enter g args) w) (W:o<w.heap.size) (N:l<w.heap.size) (I:k<w.heap.size)
  (c0:w.cell? ⟨o,0,none⟩=some (.func (.func g) #[] #[])) (J:w.cell? ⟨l,0,none⟩=some (.bool p)) (O:w.cell? ⟨l,1,none⟩=some (.string u)) (S:w.cell? ⟨l,2,none⟩=some (.string s))
  (K:w.cell? ⟨k,0,none⟩=some (.bool q)) (U:w.cell? ⟨k,1,none⟩=some (.string A)) (L:w.cell? ⟨k,2,none⟩=some (.string z))
  (j:∀ wx,Below w.heap.size w wx->Calls prog g #[nvS p u s,nvS q A z] wx fun e w'=>e=E/\Below wx.heap.size wx w') :
  Calls prog 200 #[.pointer (some ⟨o,0,none⟩),.pointer (some ⟨l,0,none⟩),.pointer (some ⟨k,0,none⟩)] w fun e w'=>e=E/\Below w.heap.size w w':=by
 unfold nvS at j;have i:=qh j;clear j;have m:Below w.heap.size w (w.alloc (.cells #[.bool false,.string ⟨#[]⟩,.string ⟨#[]⟩] 189)):=blr.alloc nlr _;have d:=qh m;clear m
 rcases G with ⟨r,x,y,rfl⟩|rfl
 ·go_enter func200,ntmps200
  go_wp2_with fail
  refine(i.out _ d.out).mono ?_;rintro e D ⟨rfl,c⟩;have h:=qh c;clear c;obtain⟨F,B,H,T,Q,R,C⟩:=res3 h.out;obtain⟨s0,s1,s2⟩:=set3 (a':=.bool r) (b':=.string x) (c':=.string y) F B H
  go_wp2_with fail
  exact bodyPost_ret (z3m rfl _ _ w.heap.size r x y rfl s0 s1 s2) rfl ⟨rfl,(((z0a d.out h.out).setCell nlr _).setCell nlr _).setCell nlr _⟩
 unfold PT at i ⊢
 go_enter func200,ntmps200
 go_wp2_with fail
 refine(i.out _ d.out).mono ?_;rintro e D ⟨rfl,c⟩;have h:=qh c;clear c
 go_wp2_with fail
 exact⟨rfl,rfl,z0a d.out h.out⟩
theorem qE (q:Rat):(∃ r x y,(if fitQ q then .returned (nv q) else PT)=Ending.returned (.agg #[.bool r,.string x,.string y]))\/(if fitQ q then .returned (nv q) else PT)=PT:=by
 by_cases h:fitQ q
 ·rw[if_pos h];exact .inl ⟨_,_,_,rfl⟩
 rw[if_neg h];exact .inr rfl
def okR (F:Rat->Rat->Rat) (a b:ByteArray):ByteArray × Nat:=match prs a,prs b with|some x,some y=>limR (F x y)|_,_=>(str [],1)
theorem z5r (g:FuncId) (F:Rat->Rat->Rat) (a b:ByteArray) (w:World) (U:a.size<=9223372036854775807) (hb:b.size<=9223372036854775807) (T:Tab w)
  (W:∀ args w,(callFunc g args).run prog w=.ok (.enter g args) w)
  (A:∀ x y,prs a=some x->prs b=some y->∀ wx,Below w.heap.size w wx->Calls prog g #[nv x,nv y] wx (QEnd (F x y) wx)) :
  Calls prog 185 #[.string a,.string b,.func (.func g) #[] #[]] w (PairEnd (okR F a b) w):=by
 have X:∀ (fn:Fn) (first cap:Array Value) (w:World),(Instr.makeFunc fn first cap).run prog w=.ok (.func fn first cap) w:=fun _ _ _ _=>rfl
 have R:∀ wx,Below w.heap.size w wx->Tab wx:=fun wx h=>T.below h nlr;have c1:=fun wx (h:Below w.heap.size w wx)=>z7n a wx U (R wx h);have c2:=fun wx (h:Below w.heap.size w wx)=>z7n b wx hb (R wx h);have O:=qh W;clear W;have u:=qh A;clear A;clear R T U hb;have N:Below w.heap.size w (w.alloc (.cells #[.func (.func g) #[] #[]] 191)):=blr.alloc nlr _;have j:=qh N;clear N;cases B:prs a with
 | none =>
  have D:okR F a b=(str [],1):=by unfold okR;rw[B]
  rw[D];simp only[B,Option.isSome,prsV] at c1;clear D u B;have H:=qh c1;clear c1;generalize (prs b).isSome=o at c2;obtain⟨r,x,y,S⟩:=y7x (prs b);rw[S] at c2;clear S;have E:=qh c2;clear c2;unfold NoNum nvS at H
  go_enter func185,ntmps185
  go_wp2_with fail
  refine(H.out _ j.out).mono ?_;rintro e z ⟨rfl,c⟩;have l:=qh ((z0a j.out c).alloc (Nat.le_trans j.out.size c.size) (.cells #[.bool false,.string ⟨#[]⟩,.string ⟨#[]⟩] 189));clear c
  go_wp2_with fail
  refine(E.out _ l.out).mono ?_;rintro e C ⟨rfl,d⟩;have k:=qh (z0a l.out d);clear d;go_wp2;go_ret2;exact⟨rfl,k.out.alloc k.out.size _⟩
 | some x =>
  simp only[B,Option.isSome,prsV] at c1;have H:=qh c1;clear c1;cases I:prs b with
  | none =>
   have D:okR F a b=(str [],1):=by unfold okR;rw[B,I]
   rw[D];simp only[I,Option.isSome,prsV] at c2;clear D u B I;have E:=qh c2;clear c2;unfold nv nvS at H;unfold NoNum nvS at E
   go_enter func185,ntmps185
   go_wp2_with fail
   refine(H.out _ j.out).mono ?_;rintro e z ⟨rfl,c⟩;have l:=qh ((z0a j.out c).alloc (Nat.le_trans j.out.size c.size) (.cells #[.bool (negQ x),.string (str (dec x.num.natAbs)),.string (str (dec x.den))] 189));clear c
   go_wp2_with fail
   refine(E.out _ l.out).mono ?_;rintro e C ⟨rfl,d⟩;have k:=qh (z0a l.out d);clear d;go_wp2;go_ret2;exact⟨rfl,k.out.alloc k.out.size _⟩
  | some y =>
   have D:okR F a b=limR (F x y):=by unfold okR;rw[B,I]
   rw[D];simp only[I,Option.isSome,prsV] at c2;have A:=fun wx h=>u.out x y B I wx h;clear D u B I;have u:=qh A;clear A;have E:=qh c2;clear c2;unfold nv nvS at H E
   go_enter func185,ntmps185
   go_wp2_with fail
   refine(H.out _ j.out).mono ?_;rintro e z ⟨rfl,c⟩;have K:=qh c;have l:=qh ((z0a j.out c).alloc (Nat.le_trans j.out.size c.size) (.cells #[.bool (negQ x),.string (str (dec x.num.natAbs)),.string (str (dec x.den))] 189));clear c
   go_wp2_with fail
   refine(E.out _ l.out).mono ?_;rintro e C ⟨rfl,d⟩;have J:=qh d;have k:=qh ((z0a l.out d).alloc (Nat.le_trans l.out.size d.size) (.cells #[.bool (negQ y),.string (str (dec y.num.natAbs)),.string (str (dec y.den))] 189));clear d
   go_wp2_with fail
   refine(x3b _ (F x y) _ (fun wx h=>?_)).mono ?_
   ·have z0:=K.out.size;have Y:=J.out.size;have Z:=h.size;rw[World.size_alloc] at z0 Y Z;have s0:w.heap.size<(w.alloc (.cells #[.func (.func g) #[] #[]] 191)).heap.size:=by rw[World.size_alloc];omega
    have s1:∀ o,z.heap.size<(z.alloc o).heap.size:=fun o=>by rw[World.size_alloc];omega
    have s2:∀ o,C.heap.size<(C.alloc o).heap.size:=fun o=>by rw[World.size_alloc];omega
    have G:wx.cell? ⟨w.heap.size,0,none⟩=some (.func (.func g) #[] #[]):=by
     refine(h.cell (p:=⟨w.heap.size,0,none⟩) (by rw[World.size_alloc];show w.heap.size<_;omega)).trans ?_;rw[World.cell?_alloc_past (hn:=by omega)];refine(J.out.cell (p:=⟨w.heap.size,0,none⟩) (by rw[World.size_alloc];show w.heap.size<_;omega)).trans ?_;rw[World.cell?_alloc_past (hn:=by omega)];refine(K.out.cell (p:=⟨w.heap.size,0,none⟩) s0).trans ?_;simp[go_sem]
    have s:∀ (i:Nat) (v:Value),(z.alloc (.cells #[.bool (negQ x),.string (str (dec x.num.natAbs)),.string (str (dec x.den))] 189)).cell? ⟨z.heap.size,i,none⟩=some v->wx.cell? ⟨z.heap.size,i,none⟩=some v:=by
     intro i v P;refine(h.cell (p:=⟨z.heap.size,i,none⟩) (by rw[World.size_alloc];show z.heap.size<_;omega)).trans ?_;rw[World.cell?_alloc_past (hn:=by omega)];exact(J.out.cell (p:=⟨z.heap.size,i,none⟩) (s1 _)).trans P
    have m:∀ (i:Nat) (v:Value),(C.alloc (.cells #[.bool (negQ y),.string (str (dec y.num.natAbs)),.string (str (dec y.den))] 189)).cell? ⟨C.heap.size,i,none⟩=some v->wx.cell? ⟨C.heap.size,i,none⟩=some v:=by
     intro i v P;exact(h.cell (p:=⟨C.heap.size,i,none⟩) (s2 _)).trans P
    exact v0q g _ _ _ _ _ _ _ w.heap.size z.heap.size C.heap.size wx (qE (F x y)) O.out (by omega) (by omega) (by omega) G
     (s 0 _ (by simp[go_sem])) (s 1 _ (by simp[go_sem])) (s 2 _ (by simp[go_sem])) (m 0 _ (by simp[go_sem])) (m 1 _ (by simp[go_sem])) (m 2 _ (by simp[go_sem]))
     (fun wy hy=>u.out wy ((z0a k.out h).trans (hy.mono (z0a k.out h).size)))
   rintro e w3 ⟨rfl,L⟩;have Q:=qh (z0a k.out L);clear L;generalize limR (F x y)=lr at *;obtain⟨ls,ln⟩:=lr;go_wp2;go_ret2;exact⟨rfl,Q.out⟩
end
section
open Go.RowKit
attribute [local go_sem ↓] Go.wp_at_zero Go.wp_at_succ
theorem v7r (p q:Bool) (h j i l a b c d:ByteArray) (s:Bool) (E:Ending) (w:World) (T:(∃ r x y,E=.returned (.agg #[.bool r,.string x,.string y]))\/E=PT)
  (c1:∀ wx,Below w.heap.size w wx->Calls prog 189 #[.string h,.string l] wx (StrZ a wx))
  (c2:∀ wx,Below w.heap.size w wx->Calls prog 189 #[.string i,.string j] wx (StrZ b wx))
  (c3:∀ wx,Below w.heap.size w wx->Calls prog 187 #[.bool p,.string a,.bool q,.string b] wx fun e w'=>e=.returned (.tuple #[.bool s,.string c])/\Below wx.heap.size wx w')
  (c4:∀ wx,Below w.heap.size w wx->Calls prog 189 #[.string j,.string l] wx (StrZ d wx))
  (c5:∀ wx,Below w.heap.size w wx->Calls prog 190 #[.bool s,.string c,.string d] wx fun e w'=>e=E/\Below wx.heap.size wx w') :
  Calls prog 186 #[nvS p h j,nvS q i l] w fun e w'=>e=E/\Below w.heap.size w w':=by
 have L:=qh c1;clear c1;have J:=qh c2;clear c2;have N:=qh c3;clear c3;have K:=qh c4;clear c4;have H:=qh c5;clear c5;have g:=qh (y2r p q h j i l w);have Y:Below (WR p q h j i l w).heap.size (WR p q h j i l w) (WR p q h j i l w).drew:=blr.drew;unfold nvS
 rcases T with ⟨r,x,y,rfl⟩|rfl
 ·-- a number
  go_enter func186,ntmps186
  go_wp2_with fail
  change Code.wp _ _ _ _ (WR p q h j i l w)
  go_region_held2 (fun k=>Below (WR p q h j i l w).heap.size (WR p q h j i l w) k /\
   k.cell? ⟨w.heap.size,0,none⟩=some (.bool p)/\k.cell? ⟨w.heap.size,1,none⟩=some (.string h)/\k.cell? ⟨w.heap.size,2,none⟩=some (.string j) /\
   k.cell? ⟨w.heap.size+1,0,none⟩=some (.bool q)/\k.cell? ⟨w.heap.size+1,1,none⟩=some (.string i)/\k.cell? ⟨w.heap.size+1,2,none⟩=some (.string l))
   (first|exact z5z (by assumption)|exact z5z blr.drew)
   (first
   | (go_at_call_of 189 (Value.string h);refine(L.out _ (z0a g.out (by assumption))).mono ?_;rintro e Q ⟨rfl,A⟩;have F:=z0a (by assumption) A)
   | (go_at_call_of 189 (Value.string i);refine(J.out _ (z0a g.out (by assumption))).mono ?_;rintro e w2 ⟨rfl,D⟩;have G:=z0a (by assumption) D)
   | (go_at_call 188;refine(z1n _ _).mono ?_;rintro e w' ⟨rfl,rfl⟩)
   | (go_at_call 187;refine(N.out _ (z0a g.out (by assumption))).mono ?_;rintro e w3 ⟨rfl,z⟩;have m:=z0a (by assumption) z))
  rename_i I;obtain⟨_,P,Z,S,W,X,e5⟩:=I
  go_wp2_with fail
  refine(K.out _ (z0a g.out m)).mono ?_;rintro e U ⟨rfl,C⟩;have o:=z0a m C
  go_wp2_with fail
  refine(z1n _ _).mono ?_;rintro e w' ⟨rfl,rfl⟩
  go_wp2_with fail
  refine(H.out _ (z0a g.out o)).mono ?_;rintro e w5 ⟨rfl,B⟩;have u:=z0a o B;obtain⟨R,O,k2,f0,f1,f2⟩:=y5m u;obtain⟨s0,s1,s2⟩:=set3 (a':=.bool r) (b':=.string x) (c':=.string y) R O k2
  go_wp2_with fail
  refine bodyPost_ret (z3m rfl _ _ (w.heap.size+1+1) r x y rfl s0 s1 s2) rfl ⟨rfl,(((z0a g.out u).setCell ?_ _).setCell ?_ _).setCell ?_ _⟩<;>(show w.heap.size<=w.heap.size+1+1;omega)
 unfold PT at H ⊢
 go_enter func186,ntmps186
 go_wp2_with fail
 change Code.wp _ _ _ _ (WR p q h j i l w)
 go_region_held2 (fun k=>Below (WR p q h j i l w).heap.size (WR p q h j i l w) k /\
  k.cell? ⟨w.heap.size,0,none⟩=some (.bool p)/\k.cell? ⟨w.heap.size,1,none⟩=some (.string h)/\k.cell? ⟨w.heap.size,2,none⟩=some (.string j) /\
  k.cell? ⟨w.heap.size+1,0,none⟩=some (.bool q)/\k.cell? ⟨w.heap.size+1,1,none⟩=some (.string i)/\k.cell? ⟨w.heap.size+1,2,none⟩=some (.string l))
  (first|exact z5z (by assumption)|exact z5z blr.drew)
  (first
  | (go_at_call_of 189 (Value.string h);refine(L.out _ (z0a g.out (by assumption))).mono ?_;rintro e Q ⟨rfl,A⟩;have F:=z0a (by assumption) A)
  | (go_at_call_of 189 (Value.string i);refine(J.out _ (z0a g.out (by assumption))).mono ?_;rintro e w2 ⟨rfl,D⟩;have G:=z0a (by assumption) D)
  | (go_at_call 188;refine(z1n _ _).mono ?_;rintro e w' ⟨rfl,rfl⟩)
  | (go_at_call 187;refine(N.out _ (z0a g.out (by assumption))).mono ?_;rintro e w3 ⟨rfl,z⟩;have m:=z0a (by assumption) z))
 rename_i I;obtain⟨_,P,Z,S,W,X,e5⟩:=I
 go_wp2_with fail
 refine(K.out _ (z0a g.out m)).mono ?_;rintro e U ⟨rfl,C⟩;have o:=z0a m C
 go_wp2_with fail
 refine(z1n _ _).mono ?_;rintro e w' ⟨rfl,rfl⟩
 go_wp2_with fail
 refine(H.out _ (z0a g.out o)).mono ?_;rintro e w5 ⟨rfl,B⟩;have u:=z0a o B
 go_wp2_with fail
 exact⟨rfl,rfl,z0a g.out u⟩
theorem v4b (p q:Bool) (h j i l a b c d:ByteArray) (s:Bool) (E:Ending) (w:World) (T:(∃ r x y,E=.returned (.agg #[.bool r,.string x,.string y]))\/E=PT)
  (c1:∀ wx,Below w.heap.size w wx->Calls prog 189 #[.string h,.string l] wx (StrZ a wx))
  (c2:∀ wx,Below w.heap.size w wx->Calls prog 189 #[.string i,.string j] wx (StrZ b wx))
  (c3:∀ wx,Below w.heap.size w wx->Calls prog 187 #[.bool p,.string a,.bool (!q),.string b] wx fun e w'=>e=.returned (.tuple #[.bool s,.string c])/\Below wx.heap.size wx w')
  (c4:∀ wx,Below w.heap.size w wx->Calls prog 189 #[.string j,.string l] wx (StrZ d wx))
  (c5:∀ wx,Below w.heap.size w wx->Calls prog 190 #[.bool s,.string c,.string d] wx fun e w'=>e=E/\Below wx.heap.size wx w') :
  Calls prog 212 #[nvS p h j,nvS q i l] w fun e w'=>e=E/\Below w.heap.size w w':=by
 have L:=qh c1;clear c1;have J:=qh c2;clear c2;have N:=qh c3;clear c3;have K:=qh c4;clear c4;have H:=qh c5;clear c5;have g:=qh (y2r p q h j i l w);have Y:Below (WR p q h j i l w).heap.size (WR p q h j i l w) (WR p q h j i l w).drew:=blr.drew;unfold nvS
 rcases T with ⟨r,x,y,rfl⟩|rfl
 ·-- a number
  go_enter func212,ntmps212
  go_wp2_with fail
  change Code.wp _ _ _ _ (WR p q h j i l w)
  go_region_held2 (fun k=>Below (WR p q h j i l w).heap.size (WR p q h j i l w) k /\
   k.cell? ⟨w.heap.size,0,none⟩=some (.bool p)/\k.cell? ⟨w.heap.size,1,none⟩=some (.string h)/\k.cell? ⟨w.heap.size,2,none⟩=some (.string j) /\
   k.cell? ⟨w.heap.size+1,0,none⟩=some (.bool q)/\k.cell? ⟨w.heap.size+1,1,none⟩=some (.string i)/\k.cell? ⟨w.heap.size+1,2,none⟩=some (.string l))
   (first|exact z5z (by assumption)|exact z5z blr.drew)
   (first
   | (go_at_call_of 189 (Value.string h);refine(L.out _ (z0a g.out (by assumption))).mono ?_;rintro e Q ⟨rfl,A⟩;have F:=z0a (by assumption) A)
   | (go_at_call_of 189 (Value.string i);refine(J.out _ (z0a g.out (by assumption))).mono ?_;rintro e w2 ⟨rfl,D⟩;have G:=z0a (by assumption) D)
   | (go_at_call 188;refine(z1n _ _).mono ?_;rintro e w' ⟨rfl,rfl⟩)
   | (go_at_call 187;refine(N.out _ (z0a g.out (by assumption))).mono ?_;rintro e w3 ⟨rfl,z⟩;have m:=z0a (by assumption) z))
  rename_i I;obtain⟨_,P,Z,S,W,X,e5⟩:=I
  go_wp2_with fail
  refine(K.out _ (z0a g.out m)).mono ?_;rintro e U ⟨rfl,C⟩;have o:=z0a m C
  go_wp2_with fail
  refine(z1n _ _).mono ?_;rintro e w' ⟨rfl,rfl⟩
  go_wp2_with fail
  refine(H.out _ (z0a g.out o)).mono ?_;rintro e w5 ⟨rfl,B⟩;have u:=z0a o B;obtain⟨R,O,k2,f0,f1,f2⟩:=y5m u;obtain⟨s0,s1,s2⟩:=set3 (a':=.bool r) (b':=.string x) (c':=.string y) R O k2
  go_wp2_with fail
  refine bodyPost_ret (z3m rfl _ _ (w.heap.size+1+1) r x y rfl s0 s1 s2) rfl ⟨rfl,(((z0a g.out u).setCell ?_ _).setCell ?_ _).setCell ?_ _⟩<;>(show w.heap.size<=w.heap.size+1+1;omega)
 unfold PT at H ⊢
 go_enter func212,ntmps212
 go_wp2_with fail
 change Code.wp _ _ _ _ (WR p q h j i l w)
 go_region_held2 (fun k=>Below (WR p q h j i l w).heap.size (WR p q h j i l w) k /\
  k.cell? ⟨w.heap.size,0,none⟩=some (.bool p)/\k.cell? ⟨w.heap.size,1,none⟩=some (.string h)/\k.cell? ⟨w.heap.size,2,none⟩=some (.string j) /\
  k.cell? ⟨w.heap.size+1,0,none⟩=some (.bool q)/\k.cell? ⟨w.heap.size+1,1,none⟩=some (.string i)/\k.cell? ⟨w.heap.size+1,2,none⟩=some (.string l))
  (first|exact z5z (by assumption)|exact z5z blr.drew)
  (first
  | (go_at_call_of 189 (Value.string h);refine(L.out _ (z0a g.out (by assumption))).mono ?_;rintro e Q ⟨rfl,A⟩;have F:=z0a (by assumption) A)
  | (go_at_call_of 189 (Value.string i);refine(J.out _ (z0a g.out (by assumption))).mono ?_;rintro e w2 ⟨rfl,D⟩;have G:=z0a (by assumption) D)
  | (go_at_call 188;refine(z1n _ _).mono ?_;rintro e w' ⟨rfl,rfl⟩)
  | (go_at_call 187;refine(N.out _ (z0a g.out (by assumption))).mono ?_;rintro e w3 ⟨rfl,z⟩;have m:=z0a (by assumption) z))
 rename_i I;obtain⟨_,P,Z,S,W,X,e5⟩:=I
 go_wp2_with fail
 refine(K.out _ (z0a g.out m)).mono ?_;rintro e U ⟨rfl,C⟩;have o:=z0a m C
 go_wp2_with fail
 refine(z1n _ _).mono ?_;rintro e w' ⟨rfl,rfl⟩
 go_wp2_with fail
 refine(H.out _ (z0a g.out o)).mono ?_;rintro e w5 ⟨rfl,B⟩;have u:=z0a o B
 go_wp2_with fail
 exact⟨rfl,rfl,z0a g.out u⟩
theorem v5f (p q:Bool) (h g j i a b:ByteArray) (E:Ending) (w:World) (I:(∃ r x y,E=.returned (.agg #[.bool r,.string x,.string y]))\/E=PT)
  (c1:∀ wx,Below w.heap.size w wx->Calls prog 189 #[.string h,.string j] wx (StrZ a wx))
  (c2:∀ wx,Below w.heap.size w wx->Calls prog 189 #[.string g,.string i] wx (StrZ b wx))
  (c5:∀ wx,Below w.heap.size w wx->Calls prog 190 #[.bool (p != q),.string a,.string b] wx fun e w'=>e=E/\Below wx.heap.size wx w') :
  Calls prog 192 #[nvS p h g,nvS q j i] w fun e w'=>e=E/\Below w.heap.size w w':=by
 have F:=qh c1;clear c1;have C:=qh c2;clear c2;have A:=qh c5;clear c5;have c:=qh (y2r p q h g j i w);have L:Below (WR p q h g j i w).heap.size (WR p q h g j i w) (WR p q h g j i w).drew:=blr.drew;unfold nvS
 rcases I with ⟨r,x,y,rfl⟩|rfl
 ·-- a number
  go_enter func192,ntmps192
  go_wp2_with fail
  change Code.wp _ _ _ _ (WR p q h g j i w)
  go_region_held2 (fun d=>Below (w.heap.size+1+1) (WR p q h g j i w) d /\
   d.cell? ⟨w.heap.size,0,none⟩=some (.bool p)/\d.cell? ⟨w.heap.size,1,none⟩=some (.string h)/\d.cell? ⟨w.heap.size,2,none⟩=some (.string g) /\
   d.cell? ⟨w.heap.size+1,0,none⟩=some (.bool q)/\d.cell? ⟨w.heap.size+1,1,none⟩=some (.string j)/\d.cell? ⟨w.heap.size+1,2,none⟩=some (.string i))
   (first|exact z2k (y2k (by assumption))|exact z2k (y2k blr.drew)|exact z2k ((((y2k (by assumption)).setCell nlr _).setCell nlr _).setCell nlr _))
   (first
   | (go_at_call_of 189 (Value.string h);refine(F.out _ (z0a c.out (by assumption))).mono ?_;rintro e H ⟨rfl,o⟩;have u:=z0a (by assumption) o)
   | (go_at_call_of 189 (Value.string g);refine(C.out _ (z0a c.out (by assumption))).mono ?_;rintro e P ⟨rfl,s⟩;have z:=z0a (by assumption) s)
   | (go_at_call 188;refine(z1n _ _).mono ?_;rintro e w' ⟨rfl,rfl⟩)
   | (go_at_call 190;refine(A.out _ (z0a c.out (by assumption))).mono ?_;rintro e O ⟨rfl,m⟩;have k:=z0a (by assumption) m;obtain⟨D,B,G,N,J,K⟩:=y5m k;obtain⟨s0,s1,s2⟩:=set3 (a':=.bool r) (b':=.string x) (c':=.string y) D B G))
  go_wp2_with fail
  refine bodyPost_ret (z3m rfl _ _ (w.heap.size+1+1) r x y rfl s0 s1 s2) rfl ⟨rfl,(((z0a c.out k).setCell ?_ _).setCell ?_ _).setCell ?_ _⟩<;>(show w.heap.size<=w.heap.size+1+1;omega)
 unfold PT at A ⊢
 go_enter func192,ntmps192
 go_wp2_with fail
 change Code.wp _ _ _ _ (WR p q h g j i w)
 go_region_held2 (fun d=>Below (w.heap.size+1+1) (WR p q h g j i w) d /\
  d.cell? ⟨w.heap.size,0,none⟩=some (.bool p)/\d.cell? ⟨w.heap.size,1,none⟩=some (.string h)/\d.cell? ⟨w.heap.size,2,none⟩=some (.string g) /\
  d.cell? ⟨w.heap.size+1,0,none⟩=some (.bool q)/\d.cell? ⟨w.heap.size+1,1,none⟩=some (.string j)/\d.cell? ⟨w.heap.size+1,2,none⟩=some (.string i))
  (first|exact z2k (y2k (by assumption))|exact z2k (y2k blr.drew)|exact z2k ((((y2k (by assumption)).setCell nlr _).setCell nlr _).setCell nlr _))
  (first
  | (go_at_call_of 189 (Value.string h);refine(F.out _ (z0a c.out (by assumption))).mono ?_;rintro e H ⟨rfl,o⟩;have u:=z0a (by assumption) o)
  | (go_at_call_of 189 (Value.string g);refine(C.out _ (z0a c.out (by assumption))).mono ?_;rintro e P ⟨rfl,s⟩;have z:=z0a (by assumption) s)
  | (go_at_call 188;refine(z1n _ _).mono ?_;rintro e w' ⟨rfl,rfl⟩)
  | (go_at_call 190;refine(A.out _ (z0a c.out (by assumption))).mono ?_;rintro e O ⟨rfl,m⟩;have k:=z0a (by assumption) m;obtain⟨D,B,G,N,J,K⟩:=y5m k;refine u3q (by assumption) 26 (.agg #[.bool false,.string ⟨#[]⟩,.string ⟨#[]⟩]) ⟨rfl,rfl,z0a c.out k⟩ (fun l=>?_)))
 exact l.out.elim
theorem v5r (p q:Bool) (h g j i a b:ByteArray) (E:Ending) (w:World) (I:(∃ r x y,E=.returned (.agg #[.bool r,.string x,.string y]))\/E=PT)
  (c1:∀ wx,Below w.heap.size w wx->Calls prog 189 #[.string h,.string i] wx (StrZ a wx))
  (c2:∀ wx,Below w.heap.size w wx->Calls prog 189 #[.string g,.string j] wx (StrZ b wx))
  (c5:∀ wx,Below w.heap.size w wx->Calls prog 190 #[.bool (p != q),.string a,.string b] wx fun e w'=>e=E/\Below wx.heap.size wx w') :
  Calls prog 213 #[nvS p h g,nvS q j i] w fun e w'=>e=E/\Below w.heap.size w w':=by
 have F:=qh c1;clear c1;have C:=qh c2;clear c2;have A:=qh c5;clear c5;have c:=qh (y2r p q h g j i w);have L:Below (WR p q h g j i w).heap.size (WR p q h g j i w) (WR p q h g j i w).drew:=blr.drew;unfold nvS
 rcases I with ⟨r,x,y,rfl⟩|rfl
 ·-- a number
  go_enter func213,ntmps213
  go_wp2_with fail
  change Code.wp _ _ _ _ (WR p q h g j i w)
  go_region_held2 (fun d=>Below (w.heap.size+1+1) (WR p q h g j i w) d /\
   d.cell? ⟨w.heap.size,0,none⟩=some (.bool p)/\d.cell? ⟨w.heap.size,1,none⟩=some (.string h)/\d.cell? ⟨w.heap.size,2,none⟩=some (.string g) /\
   d.cell? ⟨w.heap.size+1,0,none⟩=some (.bool q)/\d.cell? ⟨w.heap.size+1,1,none⟩=some (.string j)/\d.cell? ⟨w.heap.size+1,2,none⟩=some (.string i))
   (first|exact z2k (y2k (by assumption))|exact z2k (y2k blr.drew)|exact z2k ((((y2k (by assumption)).setCell nlr _).setCell nlr _).setCell nlr _))
   (first
   | (go_at_call_of 189 (Value.string h);refine(F.out _ (z0a c.out (by assumption))).mono ?_;rintro e H ⟨rfl,o⟩;have u:=z0a (by assumption) o)
   | (go_at_call_of 189 (Value.string g);refine(C.out _ (z0a c.out (by assumption))).mono ?_;rintro e P ⟨rfl,s⟩;have z:=z0a (by assumption) s)
   | (go_at_call 188;refine(z1n _ _).mono ?_;rintro e w' ⟨rfl,rfl⟩)
   | (go_at_call 190;refine(A.out _ (z0a c.out (by assumption))).mono ?_;rintro e O ⟨rfl,m⟩;have k:=z0a (by assumption) m;obtain⟨D,B,G,N,J,K⟩:=y5m k;obtain⟨s0,s1,s2⟩:=set3 (a':=.bool r) (b':=.string x) (c':=.string y) D B G))
  go_wp2_with fail
  refine bodyPost_ret (z3m rfl _ _ (w.heap.size+1+1) r x y rfl s0 s1 s2) rfl ⟨rfl,(((z0a c.out k).setCell ?_ _).setCell ?_ _).setCell ?_ _⟩<;>(show w.heap.size<=w.heap.size+1+1;omega)
 unfold PT at A ⊢
 go_enter func213,ntmps213
 go_wp2_with fail
 change Code.wp _ _ _ _ (WR p q h g j i w)
 go_region_held2 (fun d=>Below (w.heap.size+1+1) (WR p q h g j i w) d /\
  d.cell? ⟨w.heap.size,0,none⟩=some (.bool p)/\d.cell? ⟨w.heap.size,1,none⟩=some (.string h)/\d.cell? ⟨w.heap.size,2,none⟩=some (.string g) /\
  d.cell? ⟨w.heap.size+1,0,none⟩=some (.bool q)/\d.cell? ⟨w.heap.size+1,1,none⟩=some (.string j)/\d.cell? ⟨w.heap.size+1,2,none⟩=some (.string i))
  (first|exact z2k (y2k (by assumption))|exact z2k (y2k blr.drew)|exact z2k ((((y2k (by assumption)).setCell nlr _).setCell nlr _).setCell nlr _))
  (first
  | (go_at_call_of 189 (Value.string h);refine(F.out _ (z0a c.out (by assumption))).mono ?_;rintro e H ⟨rfl,o⟩;have u:=z0a (by assumption) o)
  | (go_at_call_of 189 (Value.string g);refine(C.out _ (z0a c.out (by assumption))).mono ?_;rintro e P ⟨rfl,s⟩;have z:=z0a (by assumption) s)
  | (go_at_call 188;refine(z1n _ _).mono ?_;rintro e w' ⟨rfl,rfl⟩)
  | (go_at_call 190;refine(A.out _ (z0a c.out (by assumption))).mono ?_;rintro e O ⟨rfl,m⟩;have k:=z0a (by assumption) m;obtain⟨D,B,G,N,J,K⟩:=y5m k;refine u3q (by assumption) 26 (.agg #[.bool false,.string ⟨#[]⟩,.string ⟨#[]⟩]) ⟨rfl,rfl,z0a c.out k⟩ (fun l=>?_)))
 exact l.out.elim
end
section
open Go.RowKit
theorem u4q (x y:Rat) (w:World) (g:fitQ x) (d:fitQ y) (l:Tab w):Calls prog 186 #[nv x,nv y] w (QEnd (x+y) w):=by
 have i:∀ c,Below w.heap.size w c->Tab c:=fun c h=>l.below h nlr;have m:fits (x.num.natAbs*y.den):=z3e g.1 d.2;have o:fits (y.num.natAbs*x.den):=z3e d.1 g.2;have k:fits (x.num.natAbs*y.den+y.num.natAbs*x.den):=y7p g.1 d.2 d.1 g.2;have j:fits (x.den*y.den):=z3e g.2 d.2;unfold QEnd;rw[u3g x y];exact v7r (negQ x) (negQ y) _ _ _ _ (str (dec (x.num.natAbs*y.den))) (str (dec (y.num.natAbs*x.den))) _ (str (dec (x.den*y.den))) _ _ w (qE _)
  (fun c h=>z4u _ _ c (z6c g) (z4a d) m (i c h)) (fun c h=>z4u _ _ c (z6c d) (z4a g) o (i c h))
  (fun c h=>y1d (negQ x) (negQ y) _ _ c k (i c h)) (fun c h=>z4u _ _ c (z4a g) (z4a d) j (i c h))
  (fun c h=>z9v _ _ _ c (z9i k (x7w _ _ _ _)) j (Nat.mul_ne_zero x.den_nz y.den_nz) (i c h))
theorem u3d (x y:Rat) (w:World) (g:fitQ x) (d:fitQ y) (l:Tab w):Calls prog 212 #[nv x,nv y] w (QEnd (x-y) w):=by
 have i:∀ c,Below w.heap.size w c->Tab c:=fun c h=>l.below h nlr;have m:fits (x.num.natAbs*y.den):=z3e g.1 d.2;have o:fits (y.num.natAbs*x.den):=z3e d.1 g.2;have k:fits (x.num.natAbs*y.den+y.num.natAbs*x.den):=y7p g.1 d.2 d.1 g.2;have j:fits (x.den*y.den):=z3e g.2 d.2;unfold QEnd;rw[u4w x y];exact v4b (negQ x) (negQ y) _ _ _ _ (str (dec (x.num.natAbs*y.den))) (str (dec (y.num.natAbs*x.den))) _ (str (dec (x.den*y.den))) _ _ w (qE _)
  (fun c h=>z4u _ _ c (z6c g) (z4a d) m (i c h)) (fun c h=>z4u _ _ c (z6c d) (z4a g) o (i c h))
  (fun c h=>y1d (negQ x) (!negQ y) _ _ c k (i c h)) (fun c h=>z4u _ _ c (z4a g) (z4a d) j (i c h))
  (fun c h=>z9v _ _ _ c (z9i k (x7w _ _ _ _)) j (Nat.mul_ne_zero x.den_nz y.den_nz) (i c h))
theorem u4a (x y:Rat) (w:World) (g:fitQ x) (d:fitQ y) (l:Tab w):Calls prog 192 #[nv x,nv y] w (QEnd (x*y) w):=by
 have i:∀ c,Below w.heap.size w c->Tab c:=fun c h=>l.below h nlr;have j:fits (x.num.natAbs*y.num.natAbs):=z3e g.1 d.1;have k:fits (x.den*y.den):=z3e g.2 d.2;unfold QEnd;rw[u4y x y];exact v5f (negQ x) (negQ y) _ _ _ _ (str (dec (x.num.natAbs*y.num.natAbs))) (str (dec (x.den*y.den))) _ w (qE _)
  (fun c h=>z4u _ _ c (z6c g) (z6c d) j (i c h)) (fun c h=>z4u _ _ c (z4a g) (z4a d) k (i c h))
  (fun c h=>z9v _ _ _ c j k (Nat.mul_ne_zero x.den_nz y.den_nz) (i c h))
theorem u2w (x y:Rat) (w:World) (g:fitQ x) (d:fitQ y) (m:y≠0) (l:Tab w):Calls prog 213 #[nv x,nv y] w (QEnd (x / y) w):=by
 have i:∀ c,Below w.heap.size w c->Tab c:=fun c h=>l.below h nlr;have j:fits (x.num.natAbs*y.den):=z3e g.1 d.2;have k:fits (x.den*y.num.natAbs):=z3e g.2 d.1;unfold QEnd;rw[u4v x y];exact v5r (negQ x) (negQ y) _ _ _ _ (str (dec (x.num.natAbs*y.den))) (str (dec (x.den*y.num.natAbs))) _ w (qE _)
  (fun c h=>z4u _ _ c (z6c g) (z4a d) j (i c h)) (fun c h=>z4u _ _ c (z4a g) (z6c d) k (i c h))
  (fun c h=>z9v _ _ _ c j k ((Nat.mul_ne_zero x.den_nz (fun e=>m (Rat.num_eq_zero.1 (Int.natAbs_eq_zero.1 e))))) (i c h))
theorem v7a:∀ args w,(callFunc 186 args).run prog w=.ok (.enter 186 args) w:=fun args w=>by kernel_rfl
theorem x4y (a b:ByteArray) (w:World) (i:a.size<=9223372036854775807) (hb:b.size<=9223372036854775807) (c:Tab w) :
  Calls prog 158 #[.string a,.string b] w (PairEnd (x0e a b) w):=by
 have d:=z5r 186 (fun x y=>x+y) a b w i hb c v7a (fun x y m j k h=>u4q x y k (z2s m).2 (z2s j).2 (c.below h nlr));have g:okR (fun x y=>x+y) a b=x0e a b:=rfl;rw[g] at d;generalize x0e a b=r at *;obtain⟨s,p⟩:=r;have l:=qh d;clear d g c i hb
 go_enter func158,ntmps158
 go_wp2_with fail
 refine l.out.mono ?_;rintro e u ⟨rfl,hb⟩;have o:=qh hb;clear hb;go_wp2;go_ret2;exact⟨rfl,o.out⟩
theorem v5y:∀ args w,(callFunc 212 args).run prog w=.ok (.enter 212 args) w:=fun args w=>by kernel_rfl
theorem v5d (a b:ByteArray) (w:World) (i:a.size<=9223372036854775807) (hb:b.size<=9223372036854775807) (c:Tab w) :
  Calls prog 193 #[.string a,.string b] w (PairEnd (v1u a b) w):=by
 have d:=z5r 212 (fun x y=>x-y) a b w i hb c v5y (fun x y m j k h=>u3d x y k (z2s m).2 (z2s j).2 (c.below h nlr));have g:okR (fun x y=>x-y) a b=v1u a b:=rfl;rw[g] at d;generalize v1u a b=r at *;obtain⟨s,p⟩:=r;have l:=qh d;clear d g c i hb
 go_enter func193,ntmps193
 go_wp2_with fail
 refine l.out.mono ?_;rintro e u ⟨rfl,hb⟩;have o:=qh hb;clear hb;go_wp2;go_ret2;exact⟨rfl,o.out⟩
theorem v5n:∀ args w,(callFunc 192 args).run prog w=.ok (.enter 192 args) w:=fun args w=>by kernel_rfl
theorem x5b (a b:ByteArray) (w:World) (i:a.size<=9223372036854775807) (hb:b.size<=9223372036854775807) (c:Tab w) :
  Calls prog 162 #[.string a,.string b] w (PairEnd (y8h a b) w):=by
 have d:=z5r 192 (fun x y=>x*y) a b w i hb c v5n (fun x y m j k h=>u4a x y k (z2s m).2 (z2s j).2 (c.below h nlr));have g:okR (fun x y=>x*y) a b=y8h a b:=rfl;rw[g] at d;generalize y8h a b=r at *;obtain⟨s,p⟩:=r;have l:=qh d;clear d g c i hb
 go_enter func162,ntmps162
 go_wp2_with fail
 refine l.out.mono ?_;rintro e u ⟨rfl,hb⟩;have o:=qh hb;clear hb;go_wp2;go_ret2;exact⟨rfl,o.out⟩
theorem z8m (a:ByteArray) (w:World) (g:a.size<=9223372036854775807) (d:Tab w) :
  Calls prog 160 #[.string a] w fun e w'=>e=.returned (.bool (prs a).isSome)/\Below w.heap.size w w':=by
 have c:=z7n a w g d;obtain⟨r,x,y,h⟩:=y7x (prs a);rw[h] at c;generalize (prs a).isSome=o at *;have i:=qh c;clear c h g d
 go_enter func160,ntmps160
 go_wp2_with fail
 refine i.out.mono ?_;rintro e w' ⟨rfl,hb⟩;have j:=qh hb;clear hb;go_wp2;go_ret;exact⟨rfl,j.out⟩
theorem y0p:prs ⟨#[48]⟩=some 0:=by
 have:txt 0=⟨#[48]⟩:=by unfold txt txtL;rw[show negQ 0=false from rfl,show (0:Rat).num.natAbs=0 from rfl,show (0:Rat).den=1 from rfl,z5b];rfl
 rw[<- this];exact z2i (by unfold fitQ;rw[show (0:Rat).num.natAbs=0 from rfl,show (0:Rat).den=1 from rfl,z5b,z5j];decide)
theorem y4d {b:ByteArray} (h:prs b=some 0):b=⟨#[48]⟩:=by
 have c:=(z2s h).1;have d:=(z2s y0p).1;rw[c,d]
theorem x4m:∀ args w,(callFunc 213 args).run prog w=.ok (.enter 213 args) w:=fun args w=>by kernel_rfl
theorem v4i (a b:ByteArray) (w:World) (k:a.size<=9223372036854775807) (hb:b.size<=9223372036854775807) (j:Tab w) :
  Calls prog 194 #[.string a,.string b] w (PairEnd (y5h a b) w):=by
 have c1:=z8m a w k j;by_cases m:b=⟨#[48]⟩
 ·subst m;cases g:prs a with
  | some x =>
   have i:y5h a ⟨#[48]⟩=(str [],4):=by unfold y5h;rw[g,y0p];simp
   rw[i];rw[g] at c1;simp only[Option.isSome] at c1;have l:=qh c1;clear c1 k hb j g i
   go_enter func194,ntmps194
   go_wp2_with fail
   refine l.out.mono ?_;rintro e K ⟨rfl,hb⟩;have F:=qh hb;clear hb;go_wp2;go_ret2;exact⟨rfl,F.out⟩
  | none =>
   have i:y5h a ⟨#[48]⟩=(str [],1):=by unfold y5h;rw[g]
   rw[i];have c2:=fun p (h:Below w.heap.size w p)=>z5r 213 (fun x y=>x / y) a ⟨#[48]⟩ p k hb (j.below h nlr) x4m (fun x y u=>by rw[g] at u;simp at u);have B:okR (fun x y=>x / y) a ⟨#[48]⟩=(str [],1):=by unfold okR;rw[g]
   rw[B] at c2;rw[g] at c1;simp only[Option.isSome] at c1;have l:=qh c1;have s:=qh c2;clear c1 c2 k hb j g i B
   go_enter func194,ntmps194
   go_wp2_with fail
   refine nxa l.out fun A c=>?_
   go_wp2_with fail
   refine nxb (s.out _ c.out) c fun C d=>?_;go_wp2;go_ret2;exact⟨rfl,d.out⟩
 have D:(b.toList==[48])=false:=z4m m;have c2:=fun p (h:Below w.heap.size w p)=>z5r 213 (fun x y=>x / y) a b p k hb (j.below h nlr) x4m
  (fun x y u z H E=>u2w x y H (z2s u).2 (z2s z).2 (fun e=>by subst e;exact m (y4d z)) (j.below (h.trans (E.mono h.size)) nlr))
 have i:okR (fun x y=>x / y) a b=y5h a b:=by
  unfold okR y5h;cases g:prs a with
  | none=>rfl
  | some x =>
   cases G:prs b with
   | none=>rfl
   | some y=>simp only;rw[if_neg (fun e=>by subst e;exact m (y4d G))]
 rw[i] at c2;generalize y5h a b=r at *;obtain⟨J,I⟩:=r;generalize (prs a).isSome=o at *;have l:=qh c1;have s:=qh c2;clear c1 c2 k hb j i m;cases o
 ·go_enter func194,ntmps194
  go_wp2_with fail
  refine nxa l.out fun A c=>?_
  go_wp2_with fail
  refine nxb (s.out _ c.out) c fun C d=>?_;go_wp2;go_ret2;exact⟨rfl,d.out⟩
 go_enter func194,ntmps194
 go_wp2_with fail
 refine nxa l.out fun A c=>?_
 go_wp2_with fail
 refine nxb (s.out _ c.out) c fun C d=>?_;go_wp2;go_ret2;exact⟨rfl,d.out⟩
end
section
open Go.RowKit
attribute [local go_sem ↓] Go.wp_at_zero Go.wp_at_succ
theorem u1m (p q:Bool) (z D u B a b c:ByteArray) (s:Bool) (v:Int) (s1 s2:ByteArray) (w:World)
  (E:((c.toList==[48])=true/\v=0)\/((c.toList==[48])=false/\s=true/\v=-1)\/((c.toList==[48])=false/\s=false/\v=1))
  (c0:∀ wx,Below w.heap.size w wx->Calls prog 191 #[.string s1] wx fun e w'=>e=.returned (.tuple #[.agg #[.bool p,.string z,.string D],.bool true])/\Below wx.heap.size wx w')
  (F:∀ wx,Below w.heap.size w wx->Calls prog 191 #[.string s2] wx fun e w'=>e=.returned (.tuple #[.agg #[.bool q,.string u,.string B],.bool true])/\Below wx.heap.size wx w')
  (c1:∀ wx,Below w.heap.size w wx->Calls prog 189 #[.string z,.string B] wx (StrZ a wx))
  (c2:∀ wx,Below w.heap.size w wx->Calls prog 189 #[.string u,.string D] wx (StrZ b wx))
  (c3:∀ wx,Below w.heap.size w wx->Calls prog 187 #[.bool p,.string a,.bool (!q),.string b] wx fun e w'=>e=.returned (.tuple #[.bool s,.string c])/\Below wx.heap.size wx w') :
  Calls prog 195 #[.string s1,.string s2] w (IntEnd v w):=by
 have C0:=qh c0;clear c0;have L:=qh F;clear F;have S:=qh c1;clear c1;have R:=qh c2;clear c2;have C3:=qh c3;clear c3;have Y:=qh E;clear E
 go_enter func195,ntmps195
 go_wp2_with fail
 refine(C0.out _ blr).mono ?_;rintro e j ⟨rfl,l⟩;have Q:=qh l;have C:=qh (l.alloc l.size (.cells #[.bool p,.string z,.string D] 189));clear l
 go_wp2_with fail
 refine(L.out _ C.out).mono ?_;rintro e m ⟨rfl,o⟩;have H:=qh o;have g:=qh ((z0a C.out o).alloc (Nat.le_trans C.out.size o.size) (.cells #[.bool q,.string u,.string B] 189));clear o
 go_wp2_with fail
 obtain⟨W,G⟩:=exq (m.alloc (.cells #[.bool q,.string u,.string B] 189));have k:∀ d,Below W.heap.size W d->(Below W.heap.size W d /\
  d.cell? ⟨j.heap.size,0,none⟩=some (.bool p)/\d.cell? ⟨j.heap.size,1,none⟩=some (.string z)/\d.cell? ⟨j.heap.size,2,none⟩=some (.string D) /\
  d.cell? ⟨m.heap.size,0,none⟩=some (.bool q)/\d.cell? ⟨m.heap.size,1,none⟩=some (.string u)/\d.cell? ⟨m.heap.size,2,none⟩=some (.string B)):=by
  intro d h;subst G;have T:=H.out.size;rw[World.size_alloc] at T;have K:∀ (i:Nat) (v:Value),(j.alloc (.cells #[.bool p,.string z,.string D] 189)).cell? ⟨j.heap.size,i,none⟩=some v->d.cell? ⟨j.heap.size,i,none⟩=some v:=by
   intro i v E;refine(h.cell (p:=⟨j.heap.size,i,none⟩) (by rw[World.size_alloc];show j.heap.size<_;omega)).trans ?_;rw[World.cell?_alloc_past (hn:=by omega)];exact(H.out.cell (p:=⟨j.heap.size,i,none⟩) (by rw[World.size_alloc];show j.heap.size<_;omega)).trans E
  have N:∀ (i:Nat) (v:Value),(m.alloc (.cells #[.bool q,.string u,.string B] 189)).cell? ⟨m.heap.size,i,none⟩=some v->d.cell? ⟨m.heap.size,i,none⟩=some v:=by
   intro i v E;exact(h.cell (p:=⟨m.heap.size,i,none⟩) (by rw[World.size_alloc];show m.heap.size<_;omega)).trans E
  exact⟨h,K 0 _ (by simp[go_sem]),K 1 _ (by simp[go_sem]),K 2 _ (by simp[go_sem]),N 0 _ (by simp[go_sem]),N 1 _ (by simp[go_sem]),N 2 _ (by simp[go_sem])⟩
 rw[<- G];rw[<- G] at g;have P:=qh k;clear k;have U:=qh G;clear G;have a1:Below W.heap.size W W.drew:=blr.drew
 go_region_held2 (fun d=>Below W.heap.size W d /\
  d.cell? ⟨j.heap.size,0,none⟩=some (.bool p)/\d.cell? ⟨j.heap.size,1,none⟩=some (.string z)/\d.cell? ⟨j.heap.size,2,none⟩=some (.string D) /\
  d.cell? ⟨m.heap.size,0,none⟩=some (.bool q)/\d.cell? ⟨m.heap.size,1,none⟩=some (.string u)/\d.cell? ⟨m.heap.size,2,none⟩=some (.string B))
  (first|exact P.out _ (by assumption)|exact P.out _ blr.drew)
  (first
   | (go_at_call_of 189 (Value.string z);refine(S.out _ (z0a g.out (by assumption))).mono ?_;rintro e j ⟨rfl,l⟩;have X:=z0a (by assumption) l)
   | (go_at_call_of 189 (Value.string u);refine(R.out _ (z0a g.out (by assumption))).mono ?_;rintro e m ⟨rfl,o⟩;have Z:=z0a (by assumption) o)
   | (go_at_call 188;refine(z1n _ _).mono ?_;rintro e w' ⟨rfl,rfl⟩)
   | (go_at_call 187;refine(C3.out _ (z0a g.out (by assumption))).mono ?_;rintro e w3 ⟨rfl,I⟩;have J:=z0a (by assumption) I))
 have A:=qh J
 rcases Y.out with ⟨O,rfl⟩|⟨O,rfl,rfl⟩|⟨O,rfl,rfl⟩
 ·go_wp2;go_ret;exact⟨rfl,z0a g.out A.out⟩
 ·go_wp2;go_ret;exact⟨rfl,z0a g.out A.out⟩
 go_wp2;go_ret;exact⟨rfl,z0a g.out A.out⟩
theorem x1z (n:Nat):((str (dec n)).toList==[48])=decide (n=0):=by
 rw[str_eq,decide_eq_decide];exact⟨fun h=>z7j (h.trans z5b.symm),fun h=>by rw[h,z5b]⟩
theorem y7g (a b:ByteArray) (w:World) (E:a.size<=9223372036854775807) (hb:b.size<=9223372036854775807) (D:Tab w) :
  Calls prog 195 #[.string a,.string b] w (IntEnd (y3f a b) w):=by
 have p:∀ c,Below w.heap.size w c->Tab c:=fun c h=>D.below h nlr;have c1:=fun c (h:Below w.heap.size w c)=>z7n a c E (p c h);have c2:=fun c (h:Below w.heap.size w c)=>z7n b c hb (p c h);cases l:prs a with
 | none =>
  have m:y3f a b=0:=by unfold y3f;rw[l]
  rw[m];simp only[l,Option.isSome,prsV] at c1;generalize (prs b).isSome=o at c2;obtain⟨r,x,y,G⟩:=y7x (prs b);rw[G] at c2;have B:=qh c1;clear c1;have C:=qh c2;clear c2 m l G D E hb p;unfold NoNum nvS at B
  go_enter func195,ntmps195
  go_wp2_with fail
  refine(B.out _ blr).mono ?_;rintro e K ⟨rfl,d⟩;have j:=qh (d.alloc d.size (.cells #[.bool false,.string ⟨#[]⟩,.string ⟨#[]⟩] 189));clear d
  go_wp2_with fail
  refine(C.out _ j.out).mono ?_;rintro e L ⟨rfl,i⟩;have g:=qh (z0a j.out i);clear i;go_wp2;go_ret;exact⟨rfl,g.out.alloc g.out.size _⟩
 | some x =>
  simp only[l,Option.isSome,prsV] at c1;cases A:prs b with
  | none =>
   have m:y3f a b=0:=by unfold y3f;rw[l,A]
   rw[m];simp only[A,Option.isSome,prsV] at c2;have B:=qh c1;clear c1;have C:=qh c2;clear c2 m l A D E hb p;unfold NoNum nvS at C;unfold nv nvS at B
   go_enter func195,ntmps195
   go_wp2_with fail
   refine(B.out _ blr).mono ?_;rintro e K ⟨rfl,d⟩;have j:=qh (d.alloc d.size (.cells #[.bool (negQ x),.string (str (dec x.num.natAbs)),.string (str (dec x.den))] 189));clear d
   go_wp2_with fail
   refine(C.out _ j.out).mono ?_;rintro e L ⟨rfl,i⟩;have g:=qh (z0a j.out i);clear i;go_wp2;go_ret;exact⟨rfl,g.out.alloc g.out.size _⟩
  | some y =>
   have z:=(z2s l).2;have u:=(z2s A).2;have m:y3f a b=cmpQ x y:=by unfold y3f;rw[l,A]
   rw[m];simp only[A,Option.isSome,prsV] at c2;have H:fits (x.num.natAbs*y.den):=z3e z.1 u.2;have J:fits (y.num.natAbs*x.den):=z3e u.1 z.2;have I:fits (x.num.natAbs*y.den+y.num.natAbs*x.den):=y7p z.1 u.2 u.1 z.2;refine u1m (negQ x) (negQ y) _ _ _ _ (str (dec (x.num.natAbs*y.den))) (str (dec (y.num.natAbs*x.den))) (str (dec (sumF (negQ x) (x.num.natAbs*y.den) (!negQ y) (y.num.natAbs*x.den)).2)) (sumF (negQ x) (x.num.natAbs*y.den) (!negQ y) (y.num.natAbs*x.den)).1 (cmpQ x y) a b w ?_ c1 c2
    (fun c h=>z4u _ _ c (z6c z) (z4a u) H (p c h)) (fun c h=>z4u _ _ c (z6c u) (z4a z) J (p c h))
    (fun c h=>y1d (negQ x) (!negQ y) _ _ c I (p c h))
   rw[u4f x y,x1z];generalize sumF (negQ x) (x.num.natAbs*y.den) (!negQ y) (y.num.natAbs*x.den)=r;obtain⟨s,k⟩:=r;by_cases F:k=0
   ·left;simp[F]
   right;cases s<;>simp[F]
end
section
open Go.RowKit
abbrev fv (g:FuncId):Value:=.func (.func g) #[] #[]
def ring0:Array Value:=#[.string ⟨#[]⟩,.string ⟨#[]⟩,.bool false,.nilFunc,.nilFunc,.nilFunc,.nilFunc,.nilFunc]
def ring1:Array Value:=#[.string ⟨#[105,110,102]⟩,.string ⟨#[48]⟩,.bool true,fv 157,fv 158,fv 159,fv 160,fv 160]
def ring2:Array Value:=#[.string ⟨#[48]⟩,.string ⟨#[49]⟩,.bool false,fv 161,fv 162,fv 163,fv 164,fv 165]
def ring3:Array Value:=#[.string ⟨#[48]⟩,.string ⟨#[49]⟩,.bool false,fv 157,fv 162,fv 166,fv 164,fv 165]
def z7e:Array Value:=#[.string ⟨#[]⟩,.string ⟨#[]⟩,.bool false,.nilFunc,.nilFunc,.nilFunc,.nilFunc,.nilFunc,
 .string ⟨#[105,110,102]⟩,.string ⟨#[48]⟩,.bool true,fv 157,fv 158,fv 159,fv 160,fv 160,
 .string ⟨#[48]⟩,.string ⟨#[49]⟩,.bool false,fv 161,fv 162,fv 163,fv 164,fv 165,
 .string ⟨#[48]⟩,.string ⟨#[49]⟩,.bool false,fv 157,fv 162,fv 166,fv 164,fv 165]
theorem z4x {P:Program} {g:Array Oper} {d:List Oper} {i:Oper} {a:Act} {w:World} {Q:Exit->Act->World->Prop} (j:i.guard=none) (t:TypeId) (x y:Operand) (p:i.op=.store t x y)
  (c c':Array Value) (o:a.eval x=.pointer (some ⟨w.heap.size,0,none⟩)) (k:a.eval y=.agg c') (hi:(P.info? t).map (·.size)=some c'.size) (s:c.size=c'.size) (m:c'.all (·.oneCell')=true)
  (h:wpList P g Q d (a.put i.dst undef) (w.alloc (.cells c' t))):wpList P g Q (i::d) a (w.alloc (.cells c t)) :=
 wpList_plain j fun _ l=>by
  unfold Oper.wp execOp;simp only[p,o,k,Instr.storeAt,Instr.sureAddr,Sem.run_bind,Sem.run_pure,Result.andThen_ok,run_storeVar_new w t c c' hi s m];exact l _ _ h
theorem z7z {fn:Func} {p:Tmp} {d:TypeId} (h:fn.results=#[.cell p d]) (c:Array Value) (P:Program) (w:World) :
  (results fn c).run P w=((asAddr (c.getD p undef)).run P w).andThen fun a w₁=>(loadVar d a).run P w₁:=by
 simp only[results,h];simp[Sem.run_bind,Result.andThen]
theorem y5c (w:World):Calls prog 134 #[] w fun e w'=>e=.returned (.agg z7e)/\Below w.heap.size w w':=by
 have hi:(prog.info? 150).map (·.size)=some z7e.size:=by kernel_rfl
 have c:z7e.all (·.oneCell')=true:=by decide +kernel
 have d:=qh hi;clear hi;have g:=qh c;clear c
 go_enter func134,ntmps134
 go_wp2_with (refine z4x rfl 150 (.tmp 0) (.tmp 4) rfl _ z7e rfl rfl d.out rfl g.out ?_)
 refine bodyPost_ret (v:=.agg z7e) ?_ rfl ⟨rfl,blr.alloc nlr _⟩;rw[z7z rfl];exact run_loadVar_new w 150 z7e 4 123 underlying150 d.out
theorem there8 {w g:World} {c:Array Value} {t:TypeId} (k:c.size=8) (h:Below (w.alloc (.cells c t)).heap.size (w.alloc (.cells c t)) g):g.there w.heap.size 0 8:=by
 intro j i;have d:w.heap.size<(w.alloc (.cells c t)).heap.size:=by simp
 have e:=h.cell (p:=⟨w.heap.size,0+j,none⟩) d;have f:=h.frozen (p:=⟨w.heap.size,0+j,none⟩) d;rw[e,f]
 constructor
 ·rw[cell_of_row _ _ (0+j) c t (0,0) (heap_alloc_last w _)];simp[k,i]
 exact World.frozen?_alloc_new w c t _
def OfEnd (r:Array Value) (b:Bool) (w:World) (e:Ending) (w':World):Prop:=e=.returned (.tuple #[.agg r,.bool b])/\Below w.heap.size w w'
theorem z6x {fn:Func} {p u:Tmp} (h:fn.results=#[.cell p 123,.tmp u]) (c:Array Value) (W:World) (b:Nat) (r:List Value) (v:Value) (g:c.getD p undef=.pointer (some ⟨b,0,none⟩)) (d:c.getD u undef=v)
  (j:r.length=8) (i:W.rangeAt b 0 r):(results fn c).run prog W=.ok (.tuple #[.agg r.toArray,v]) W:=by
 rw[results_cell_tmp h,g,d];have hi:(prog.info? 123).map (·.size)=some r.length:=by rw[j];kernel_rfl
 have:=run_loadVar_mid (P:=prog) W b 0 123 r _ i underlying123 rfl hi;show ((loadVar 123 ⟨b,0,none⟩).run prog W).andThen _=_;rw[this];rfl
theorem y9a (w:World) (c:Array Value) (t:TypeId):(w.alloc (.cells c t)).rangeAt w.heap.size 0 c.toList:=by
 intro j v d;rw[cell_of_row _ _ (0+j) c t (0,0) (heap_alloc_last w _)];rw[Nat.zero_add];rw[Array.getElem?_toList] at d;exact d
theorem x2b (k:Int) (w:World) (c:k<1\/3<k):Calls prog 97 #[.int .i64 k] w (OfEnd ring0 false w):=by
 have hi:(prog.info? 123).map (·.size)=some ring0.size:=by kernel_rfl
 have d:ring0.all (·.oneCell')=true:=by decide +kernel
 have h:=qh hi;clear hi;have g:=qh d;clear d
 rcases c with c|c
 ·go_enter func97,ntmps97
  go_wp2_with (refine z4x rfl 123 (.tmp 2) (.tmp 10) rfl _ ring0 rfl rfl h.out rfl g.out ?_)
  exact bodyPost_ret (z6x rfl _ _ w.heap.size ring0.toList (.bool false) rfl rfl rfl (y9a w ring0 _)) rfl ⟨rfl,blr.alloc nlr _⟩
 have i:decide (k<1)=false:=by rw[decide_eq_false_iff_not];omega
 go_enter func97,ntmps97
 go_wp2_with (refine z4x rfl 123 (.tmp 2) (.tmp 10) rfl _ ring0 rfl rfl h.out rfl g.out ?_)
 exact bodyPost_ret (z6x rfl _ _ w.heap.size ring0.toList (.bool false) rfl rfl rfl (y9a w ring0 _)) rfl ⟨rfl,blr.alloc nlr _⟩
end
section
open Go.RowKit
theorem z7s {B b:Nat} {a:World}:∀ {w:World},Below B a w->B<=b->∀ (vs:List Value) (o:Nat),Below B a (w.setCells b o vs)
 | _,h,_,[],_=>h
 | _,h,hB,v::vs,o=>z7s (h.setCell (p:=⟨b,o,none⟩) hB v) hB vs (o+1)
theorem v2y (k:Int) (m R:Array Value) (w:World) (D:1<=k) (F:k<=3) (d:R.size=8) (u:R.all (·.oneCell')=true) (p:∀ wx,Calls prog 134 #[] wx fun e w'=>e=.returned (.agg m)/\Below wx.heap.size wx w')
  (I:∀ w,(Instr.index 150 (.agg m) (.int .i64 k)).run prog w=.ok (.agg R) w):Calls prog 97 #[.int .i64 k] w (OfEnd R true w):=by
 have hi:(prog.info? 123).map (·.size)=some R.size:=by rw[d];kernel_rfl
 have E:=qh hi;clear hi;have H:=qh u;clear u;have A:=qh p;clear p;have s:=qh d;clear d;have B:decide (k<1)=false:=by rw[decide_eq_false_iff_not];omega
 have G:decide (3<k)=false:=by rw[decide_eq_false_iff_not];omega
 have h:Below w.heap.size w (w.alloc (.cells ring0 123)):=blr.alloc nlr _;have g:=qh h;clear h
 go_enter func97,ntmps97
 go_wp2_with fail
 refine(A.out _).mono ?_;rintro e C ⟨rfl,i⟩;have j:=qh i;clear i;have o:=there8 rfl j.out;rw[<- s.out] at o;have z:=qh o;clear o
 go_wp2_with (refine wpList_store_mid rfl 123 (.tmp 2) (.tmp 13) rfl w.heap.size 0 R rfl rfl z.out E.out H.out ?_)
 have l:=World.rangeAt_setCells_same C w.heap.size 0 R.toList (by rw[Array.length_toList];exact z.out);have c:=z6x (fn:=f97) rfl #[.int .i64 k,undef,.pointer (some ⟨w.heap.size,0,none⟩),.bool true,.int .i64 k,.bool false,.bool false,.int .i64 k,.bool false,.bool false,undef,.agg m,.int .i64 k,.agg R] _ w.heap.size R.toList (.bool true) rfl rfl (by rw[Array.length_toList];exact s.out) l;rw[Array.toArray_toList] at c;exact bodyPost_ret c rfl ⟨rfl,z7s (g.out.trans (j.out.mono g.out.size)) nlr _ _⟩
theorem u1k (w:World):(Instr.index 150 (.agg z7e) (.int .i64 1)).run prog w=.ok (.agg ring1) w:=by kernel_rfl
theorem of_1 (w:World):Calls prog 97 #[.int .i64 1] w (OfEnd ring1 true w) :=
 v2y 1 z7e ring1 w (by decide) (by decide) rfl (by decide +kernel) y5c u1k
theorem u0j (w:World):(Instr.index 150 (.agg z7e) (.int .i64 2)).run prog w=.ok (.agg ring2) w:=by kernel_rfl
theorem of_2 (w:World):Calls prog 97 #[.int .i64 2] w (OfEnd ring2 true w) :=
 v2y 2 z7e ring2 w (by decide) (by decide) rfl (by decide +kernel) y5c u0j
theorem u1b (w:World):(Instr.index 150 (.agg z7e) (.int .i64 3)).run prog w=.ok (.agg ring3) w:=by kernel_rfl
theorem of_3 (w:World):Calls prog 97 #[.int .i64 3] w (OfEnd ring3 true w) :=
 v2y 3 z7e ring3 w (by decide) (by decide) rfl (by decide +kernel) y5c u1b
end
section
open Go.RowKit
theorem z2v:infS.toList=[105,110,102]:=by rw[Lib.toList_data];rfl
theorem z5t:lowS.toList=[45,105,110,102]:=by rw[Lib.toList_data];rfl
theorem z8g {q:Rat} (h:fitQ q):((txt q).toList==[105,110,102])=false:=by
 refine z4m (l:=[105,110,102]) (fun e=>?_);have:=z2i h;rw[e] at this;have c:=y6x;unfold infS at c;rw[show str [105,110,102]=(⟨#[105,110,102]⟩:ByteArray) from rfl,c] at this;simp at this
theorem y6b {q:Rat} (h:fitQ q):((txt q).toList==[45,105,110,102])=false:=by
 refine z4m (l:=[45,105,110,102]) (fun e=>?_);have:=z2i h;rw[e] at this;have c:=y4u;unfold lowS at c;rw[show str [45,105,110,102]=(⟨#[45,105,110,102]⟩:ByteArray) from rfl,c] at this;simp at this
theorem v0n {x y:Rat} (d:fitQ x) (c:fitQ y):y3f (txt x) (txt y)=cmpQ x y:=by unfold y3f;rw[z2i d,z2i c]
theorem z4s (v u:V) (w:World) (A:fitV v) (p:fitV u) (S:Tab w):Calls prog 184 #[.string (vtxt v),.string (vtxt u)] w (IntEnd (cmpV v u) w):=by
 have F:∀ (a b:ByteArray) (z:Int) (j:z=0/\a=b\/a≠b) (c:a≠b->a≠infS->a≠lowS->b≠infS->b≠lowS->Calls prog 195 #[.string a,.string b] w (IntEnd z w))
   (o:a≠b->((a=lowS\/b=infS)/\z=-1)\/(a≠lowS/\b≠infS/\(b=lowS\/a=infS)/\z=1)\/(a≠lowS/\b≠infS/\b≠lowS/\a≠infS)),
   Calls prog 184 #[.string a,.string b] w (IntEnd z w):=by
  intro a b z j c o
  rcases j with ⟨rfl,rfl⟩|j
  ·clear c o
   go_enter func184,ntmps184
   go_wp2;go_ret;exact⟨rfl,blr⟩
  have T:(a.toList==b.toList)=false:=by rw[beq_eq_false_iff_ne];exact x9d j
  have Q:∀ s:ByteArray,s≠lowS->(s.toList==[45,105,110,102])=false:=fun s h=>z4m (l:=[45,105,110,102]) h;have R:∀ s:ByteArray,s≠infS->(s.toList==[105,110,102])=false:=fun s h=>z4m (l:=[105,110,102]) h;have D:=qh Q;clear Q;have H:=qh R;clear R
  rcases o j with ⟨d,rfl⟩|⟨d,k,m,rfl⟩|⟨d,k,m,B⟩
  ·clear c o;by_cases g:a=lowS
   ·have J:(a.toList==[45,105,110,102])=true:=by rw[g,z5t];rfl
    clear j d g
    go_enter func184,ntmps184
    go_wp2;go_ret;exact⟨rfl,blr⟩
   have J:=D.out a g;have L:(b.toList==[105,110,102])=true:=by rw[d.resolve_left g,z2v];rfl
   clear j d g
   go_enter func184,ntmps184
   go_wp2;go_ret;exact⟨rfl,blr⟩
  ·clear c o;have J:=D.out a d;have L:=H.out b k;by_cases i:b=lowS
   ·have O:(b.toList==[45,105,110,102])=true:=by rw[i,z5t];rfl
    cases P:(a.toList==[105,110,102])
    all_goals
     clear j d k m i
     go_enter func184,ntmps184
     go_wp2;go_ret;exact⟨rfl,blr⟩
   have O:=D.out b i;have P:(a.toList==[105,110,102])=true:=by rw[m.resolve_left i,z2v];rfl
   clear j d k m i
   go_enter func184,ntmps184
   go_wp2;go_ret;exact⟨rfl,blr⟩
  have J:=D.out a d;have L:=H.out b k;have O:=D.out b m;have P:=H.out a B;have C:=qh (c j B d k m);clear c o j d k m B
  go_enter func184,ntmps184
  go_wp2_with fail
  refine nxa C.out fun W U=>?_;go_wp2;go_ret;exact⟨rfl,U.out⟩
 refine F _ _ _ ?_ ?_ ?_
 ·by_cases h:v=u
  ·subst h;exact .inl ⟨(y4z v v).2 rfl,rfl⟩
  exact .inr (fun e=>h (x3h A p e))
 ·intro _ d k m B;cases v with
  | inf=>exact absurd rfl d
  | low=>exact absurd rfl k
  | fin x =>
   cases u with
   | inf=>exact absurd rfl m
   | low=>exact absurd rfl B
   | fin y =>
    have N:=y7g (txt x) (txt y) w (by have:=z2x A;omega) (by have:=z2x p;omega) S;rw[v0n A p] at N;exact N
 intro h;have E:infS≠lowS:=by decide
 have G:∀ q:Rat,fitQ q->txt q≠infS:=fun q I e=>by have:=z8g I;rw[e,z2v] at this;simp at this
 have K:∀ q:Rat,fitQ q->txt q≠lowS:=fun q I e=>by have:=y6b I;rw[e,z5t] at this;simp at this
 cases v with
 | inf =>
  cases u with
  | inf=>exact absurd rfl h
  | low=>exact .inr (.inl ⟨E,Ne.symm E,.inl rfl,rfl⟩)
  | fin y=>exact .inr (.inl ⟨E,G y p,.inr rfl,rfl⟩)
 | low =>
  cases u with
  | inf=>exact .inl ⟨.inl rfl,rfl⟩
  | low=>exact absurd rfl h
  | fin y=>exact .inl ⟨.inl rfl,rfl⟩
 | fin x =>
  cases u with
  | inf=>exact .inl ⟨.inr rfl,rfl⟩
  | low=>exact .inr (.inl ⟨K x A,Ne.symm E,.inl rfl,rfl⟩)
  | fin y=>exact .inr (.inr ⟨K x A,G y p,K y p,G x A⟩)
end
end Go.Proofs.YteappjogmnogcaaGreatDoor
