/- Parts of a proof: MP RatE RatC RatF RatG MS1. -/
import Derived.Test.YteappjogmnogcaaGreatDoorT03
import Derived.Test.YteappjogmnogcaaGreatDoorT00
import Derived.Laws.EntriesVeiled
import Derived.Deep.WholeRow
import Derived.Deep.MidRow
import Derived.Laws.ResultCell
namespace Go.Proofs.YteappjogmnogcaaGreatDoor
set_option maxRecDepth 100000
set_option linter.unusedSimpArgs false
set_option linter.unusedVariables false
set_option linter.unusedSectionVars false
set_option maxHeartbeats 16000000
open Go Tryz
section
open Go.RowKit
theorem z0u {fn:Func} {p u:Tmp} (h:fn.results=#[.cell p 189,.tmp u]) (c:Array Value) (W:World) (n:Nat) (r:Bool) (x y:ByteArray) (o:Bool)
  (j:c.getD p undef=.pointer (some ⟨n,0,none⟩)) (i:c.getD u undef=.bool o) (c0:W.cell? ⟨n,0,none⟩=some (.bool r)) (c1:W.cell? ⟨n,1,none⟩=some (.string x)) (c2:W.cell? ⟨n,2,none⟩=some (.string y)) :
  (results fn c).run prog W=.ok (.tuple #[.agg #[.bool r,.string x,.string y],.bool o]) W:=by
 have d:c[p]?.getD undef=.pointer (some ⟨n,0,none⟩):=by rw[<- j];simp
 have g:c[u]?.getD undef=.bool o:=by rw[<- i];simp
 simp only[results,h];simp[d,g,go_sem,c0,c1,c2]
theorem size49:(⟨#[49]⟩:ByteArray).size=1:=rfl
def NoNum:Value:=nvS false ⟨#[]⟩ ⟨#[]⟩
def okB (neg frac vn vd:Bool) (n d g:ByteArray):Bool:=vn&&vd&&decide (n.size<=400)&&decide (d.size<=400)&&!(neg&&(n.toList==[48]))&&!(frac&&(d.toList==[48]||d.toList==[49]))&&(g.toList==[49])
def PairQ (neg:Bool) (n d:ByteArray) (ok:Bool) (w:World) (e:Ending) (w':World):Prop:=e=.returned (.tuple #[if ok then nvS neg n d else NoNum,.bool ok])/\Below w.heap.size w w'
theorem v1n (s r n X d g:ByteArray) (neg D J I:Bool) (w:World)
  (F:d=if D then X else ⟨#[49]⟩) (hn:n.size<=9223372036854775807) (K:d.size<=9223372036854775807)
  (c1:∀ wx,Below w.heap.size w wx->Calls prog 210 #[.string s,.string ⟨#[45]⟩] wx fun e w'=>e=.returned (.tuple #[.string r,.bool neg])/\wx=w')
  (c2:∀ wx,Below w.heap.size w wx->Calls prog 211 #[.string r,.string ⟨#[47]⟩] wx fun e w'=>e=.returned (.tuple #[.string n,.string X,.bool D])/\Below wx.heap.size wx w')
  (c3:∀ wx,Calls prog 204 #[.string n] wx fun e w'=>e=.returned (.bool J)/\wx=w')
  (c4:∀ wx,Calls prog 204 #[.string d] wx fun e w'=>e=.returned (.bool I)/\wx=w')
  (c5:J=true->I=true->∀ wx,Below w.heap.size w wx->Calls prog 208 #[.string n,.string d] wx (StrZ g wx)) :
  Calls prog 191 #[.string s] w (PairQ neg n d (okB neg D J I n d g) w):=by
 have C1:=qh c1;clear c1;have C2:=qh c2;clear c2;have W:=qh c3;clear c3;have Y:=qh c4;clear c4;have O:=qh c5;clear c5;have L:Below w.heap.size w (w.alloc (.cells #[.bool false,.string ⟨#[]⟩,.string ⟨#[]⟩] 189)):=blr.alloc nlr _;have E:=qh L;clear L;have HN:=qh hn;clear hn;have T:=qh K;clear K;have N:=qh F;clear F;unfold PairQ NoNum nvS;obtain⟨z,G⟩:∃ b,b=okB neg D J I n d g:=⟨_,rfl⟩;rw[<- G];have i:=qh G;clear G
 go_enter func191,ntmps191
 go_wp2_with fail
 refine(C1.out _ E.out).mono ?_;rintro e w1 ⟨rfl,rfl⟩
 go_wp2_with fail
 refine(C2.out _ E.out).mono ?_;rintro e w2 ⟨rfl,H⟩;have h:=qh H;have c:=qh (E.out.trans (H.mono E.out.size));clear H;cases D
 ·have F:=N.out;simp only[Bool.false_eq_true,if_false] at F;subst F;clear T N
  go_wp2_with fail
  refine(W.out _).mono ?_;rintro e w' ⟨rfl,rfl⟩;cases J
  ·-- no numerator
   have hf:z=false:=by rw[i.out];first|(simp[okB, *];done)|simp[okB, *,size49]
   subst hf;obtain⟨k,l,j,C,A,B,m⟩:=res3 h.out
   go_wp2_with fail
   obtain⟨s0,s1,s2⟩:=set3 (a':=.bool false) (b':=.string ⟨#[]⟩) (c':=.string ⟨#[]⟩) k l j;exact bodyPost_ret (z0u rfl _ _ w.heap.size false ⟨#[]⟩ ⟨#[]⟩ false rfl rfl s0 s1 s2) rfl ⟨rfl,((c.out.setCell nlr _).setCell nlr _).setCell nlr _⟩
  go_wp2_with fail
  refine(Y.out _).mono ?_;rintro e w' ⟨rfl,rfl⟩;cases I
  ·-- no denominator
   have hf:z=false:=by rw[i.out];first|(simp[okB, *];done)|simp[okB, *,size49]
   subst hf;obtain⟨k,l,j,C,A,B,m⟩:=res3 h.out
   go_wp2_with fail
   obtain⟨s0,s1,s2⟩:=set3 (a':=.bool false) (b':=.string ⟨#[]⟩) (c':=.string ⟨#[]⟩) k l j;exact bodyPost_ret (z0u rfl _ _ w.heap.size false ⟨#[]⟩ ⟨#[]⟩ false rfl rfl s0 s1 s2) rfl ⟨rfl,((c.out.setCell nlr _).setCell nlr _).setCell nlr _⟩
  by_cases h1:n.size<=400
  ·have S:(n.size:Int)<=400:=by omega
   cases neg
   ·-- no sign
    go_wp2_with fail
    refine(O.out (by trivial) (by trivial) _ c.out).mono ?_;rintro e Q ⟨rfl,o⟩;have p:=qh (h.out.trans (o.mono h.out.size));have u:=qh (c.out.trans (o.mono c.out.size));clear o;cases R:(g.toList==[49])
    ·-- no
     have hf:z=false:=by rw[i.out];first|(simp[okB, *];done)|simp[okB, *,size49]
     subst hf;obtain⟨k,l,j,C,A,B,m⟩:=res3 p.out
     go_wp2_with fail
     obtain⟨s0,s1,s2⟩:=set3 (a':=.bool false) (b':=.string ⟨#[]⟩) (c':=.string ⟨#[]⟩) k l j;exact bodyPost_ret (z0u rfl _ _ w.heap.size false ⟨#[]⟩ ⟨#[]⟩ false rfl rfl s0 s1 s2) rfl ⟨rfl,((u.out.setCell nlr _).setCell nlr _).setCell nlr _⟩
    have hf:z=true:=by rw[i.out];first|(simp[okB, *];done)|simp[okB, *,size49]
    subst hf;obtain⟨k,l,j,C,A,B,m⟩:=res3 p.out
    go_wp2_with fail
    obtain⟨s0,s1,s2⟩:=set3 (a':=.bool false) (b':=.string n) (c':=.string ⟨#[49]⟩) k l j;exact bodyPost_ret (z0u rfl _ _ w.heap.size false n ⟨#[49]⟩ true rfl rfl s0 s1 s2) rfl ⟨rfl,((u.out.setCell nlr _).setCell nlr _).setCell nlr _⟩
   cases Z:(n.toList==[48])
   ·-- a sign
    go_wp2_with fail
    refine(O.out (by trivial) (by trivial) _ c.out).mono ?_;rintro e Q ⟨rfl,o⟩;have p:=qh (h.out.trans (o.mono h.out.size));have u:=qh (c.out.trans (o.mono c.out.size));clear o;cases R:(g.toList==[49])
    ·-- no
     have hf:z=false:=by rw[i.out];first|(simp[okB, *];done)|simp[okB, *,size49]
     subst hf;obtain⟨k,l,j,C,A,B,m⟩:=res3 p.out
     go_wp2_with fail
     obtain⟨s0,s1,s2⟩:=set3 (a':=.bool false) (b':=.string ⟨#[]⟩) (c':=.string ⟨#[]⟩) k l j;exact bodyPost_ret (z0u rfl _ _ w.heap.size false ⟨#[]⟩ ⟨#[]⟩ false rfl rfl s0 s1 s2) rfl ⟨rfl,((u.out.setCell nlr _).setCell nlr _).setCell nlr _⟩
    have hf:z=true:=by rw[i.out];first|(simp[okB, *];done)|simp[okB, *,size49]
    subst hf;obtain⟨k,l,j,C,A,B,m⟩:=res3 p.out
    go_wp2_with fail
    obtain⟨s0,s1,s2⟩:=set3 (a':=.bool true) (b':=.string n) (c':=.string ⟨#[49]⟩) k l j;exact bodyPost_ret (z0u rfl _ _ w.heap.size true n ⟨#[49]⟩ true rfl rfl s0 s1 s2) rfl ⟨rfl,((u.out.setCell nlr _).setCell nlr _).setCell nlr _⟩
   have hf:z=false:=by rw[i.out];first|(simp[okB, *];done)|simp[okB, *,size49]
   subst hf;obtain⟨k,l,j,C,A,B,m⟩:=res3 h.out
   go_wp2_with fail
   obtain⟨s0,s1,s2⟩:=set3 (a':=.bool false) (b':=.string ⟨#[]⟩) (c':=.string ⟨#[]⟩) k l j;exact bodyPost_ret (z0u rfl _ _ w.heap.size false ⟨#[]⟩ ⟨#[]⟩ false rfl rfl s0 s1 s2) rfl ⟨rfl,((c.out.setCell nlr _).setCell nlr _).setCell nlr _⟩
  have S:(400:Int)<(n.size:Int):=by omega
  have hf:z=false:=by rw[i.out];first|(simp[okB, *];done)|simp[okB, *,size49]
  subst hf;obtain⟨k,l,j,C,A,B,m⟩:=res3 h.out
  go_wp2_with fail
  obtain⟨s0,s1,s2⟩:=set3 (a':=.bool false) (b':=.string ⟨#[]⟩) (c':=.string ⟨#[]⟩) k l j;exact bodyPost_ret (z0u rfl _ _ w.heap.size false ⟨#[]⟩ ⟨#[]⟩ false rfl rfl s0 s1 s2) rfl ⟨rfl,((c.out.setCell nlr _).setCell nlr _).setCell nlr _⟩
 have F:=N.out;simp only[if_true] at F;subst F;clear N
 go_wp2_with fail
 refine(W.out _).mono ?_;rintro e w' ⟨rfl,rfl⟩;cases J
 ·-- no numerator
  have hf:z=false:=by rw[i.out];first|(simp[okB, *];done)|simp[okB, *,size49]
  subst hf;obtain⟨k,l,j,C,A,B,m⟩:=res3 h.out
  go_wp2_with fail
  obtain⟨s0,s1,s2⟩:=set3 (a':=.bool false) (b':=.string ⟨#[]⟩) (c':=.string ⟨#[]⟩) k l j;exact bodyPost_ret (z0u rfl _ _ w.heap.size false ⟨#[]⟩ ⟨#[]⟩ false rfl rfl s0 s1 s2) rfl ⟨rfl,((c.out.setCell nlr _).setCell nlr _).setCell nlr _⟩
 go_wp2_with fail
 refine(Y.out _).mono ?_;rintro e w' ⟨rfl,rfl⟩;cases I
 ·-- no denominator
  have hf:z=false:=by rw[i.out];first|(simp[okB, *];done)|simp[okB, *,size49]
  subst hf;obtain⟨k,l,j,C,A,B,m⟩:=res3 h.out
  go_wp2_with fail
  obtain⟨s0,s1,s2⟩:=set3 (a':=.bool false) (b':=.string ⟨#[]⟩) (c':=.string ⟨#[]⟩) k l j;exact bodyPost_ret (z0u rfl _ _ w.heap.size false ⟨#[]⟩ ⟨#[]⟩ false rfl rfl s0 s1 s2) rfl ⟨rfl,((c.out.setCell nlr _).setCell nlr _).setCell nlr _⟩
 by_cases h1:n.size<=400
 ·have S:(n.size:Int)<=400:=by omega
  by_cases h2:d.size<=400
  ·have g2:(d.size:Int)<=400:=by omega
   cases neg
   ·-- no sign
    cases U:(d.toList==[48])
    ·cases P:(d.toList==[49])
     ·-- a denominator of its own
      go_wp2_with fail
      refine(O.out (by trivial) (by trivial) _ c.out).mono ?_;rintro e Q ⟨rfl,o⟩;have p:=qh (h.out.trans (o.mono h.out.size));have u:=qh (c.out.trans (o.mono c.out.size));clear o;cases R:(g.toList==[49])
      ·-- no
       have hf:z=false:=by rw[i.out];first|(simp[okB, *];done)|simp[okB, *,size49]
       subst hf;obtain⟨k,l,j,C,A,B,m⟩:=res3 p.out
       go_wp2_with fail
       obtain⟨s0,s1,s2⟩:=set3 (a':=.bool false) (b':=.string ⟨#[]⟩) (c':=.string ⟨#[]⟩) k l j;exact bodyPost_ret (z0u rfl _ _ w.heap.size false ⟨#[]⟩ ⟨#[]⟩ false rfl rfl s0 s1 s2) rfl ⟨rfl,((u.out.setCell nlr _).setCell nlr _).setCell nlr _⟩
      have hf:z=true:=by rw[i.out];first|(simp[okB, *];done)|simp[okB, *,size49]
      subst hf;obtain⟨k,l,j,C,A,B,m⟩:=res3 p.out
      go_wp2_with fail
      obtain⟨s0,s1,s2⟩:=set3 (a':=.bool false) (b':=.string n) (c':=.string d) k l j;exact bodyPost_ret (z0u rfl _ _ w.heap.size false n d true rfl rfl s0 s1 s2) rfl ⟨rfl,((u.out.setCell nlr _).setCell nlr _).setCell nlr _⟩
     have hf:z=false:=by rw[i.out];first|(simp[okB, *];done)|simp[okB, *,size49]
     subst hf;obtain⟨k,l,j,C,A,B,m⟩:=res3 h.out
     go_wp2_with fail
     obtain⟨s0,s1,s2⟩:=set3 (a':=.bool false) (b':=.string ⟨#[]⟩) (c':=.string ⟨#[]⟩) k l j;exact bodyPost_ret (z0u rfl _ _ w.heap.size false ⟨#[]⟩ ⟨#[]⟩ false rfl rfl s0 s1 s2) rfl ⟨rfl,((c.out.setCell nlr _).setCell nlr _).setCell nlr _⟩
    have hf:z=false:=by rw[i.out];first|(simp[okB, *];done)|simp[okB, *,size49]
    subst hf;obtain⟨k,l,j,C,A,B,m⟩:=res3 h.out
    go_wp2_with fail
    obtain⟨s0,s1,s2⟩:=set3 (a':=.bool false) (b':=.string ⟨#[]⟩) (c':=.string ⟨#[]⟩) k l j;exact bodyPost_ret (z0u rfl _ _ w.heap.size false ⟨#[]⟩ ⟨#[]⟩ false rfl rfl s0 s1 s2) rfl ⟨rfl,((c.out.setCell nlr _).setCell nlr _).setCell nlr _⟩
   cases Z:(n.toList==[48])
   ·-- a sign
    cases U:(d.toList==[48])
    ·cases P:(d.toList==[49])
     ·-- a denominator of its own
      go_wp2_with fail
      refine(O.out (by trivial) (by trivial) _ c.out).mono ?_;rintro e Q ⟨rfl,o⟩;have p:=qh (h.out.trans (o.mono h.out.size));have u:=qh (c.out.trans (o.mono c.out.size));clear o;cases R:(g.toList==[49])
      ·-- no
       have hf:z=false:=by rw[i.out];first|(simp[okB, *];done)|simp[okB, *,size49]
       subst hf;obtain⟨k,l,j,C,A,B,m⟩:=res3 p.out
       go_wp2_with fail
       obtain⟨s0,s1,s2⟩:=set3 (a':=.bool false) (b':=.string ⟨#[]⟩) (c':=.string ⟨#[]⟩) k l j;exact bodyPost_ret (z0u rfl _ _ w.heap.size false ⟨#[]⟩ ⟨#[]⟩ false rfl rfl s0 s1 s2) rfl ⟨rfl,((u.out.setCell nlr _).setCell nlr _).setCell nlr _⟩
      have hf:z=true:=by rw[i.out];first|(simp[okB, *];done)|simp[okB, *,size49]
      subst hf;obtain⟨k,l,j,C,A,B,m⟩:=res3 p.out
      go_wp2_with fail
      obtain⟨s0,s1,s2⟩:=set3 (a':=.bool true) (b':=.string n) (c':=.string d) k l j;exact bodyPost_ret (z0u rfl _ _ w.heap.size true n d true rfl rfl s0 s1 s2) rfl ⟨rfl,((u.out.setCell nlr _).setCell nlr _).setCell nlr _⟩
     have hf:z=false:=by rw[i.out];first|(simp[okB, *];done)|simp[okB, *,size49]
     subst hf;obtain⟨k,l,j,C,A,B,m⟩:=res3 h.out
     go_wp2_with fail
     obtain⟨s0,s1,s2⟩:=set3 (a':=.bool false) (b':=.string ⟨#[]⟩) (c':=.string ⟨#[]⟩) k l j;exact bodyPost_ret (z0u rfl _ _ w.heap.size false ⟨#[]⟩ ⟨#[]⟩ false rfl rfl s0 s1 s2) rfl ⟨rfl,((c.out.setCell nlr _).setCell nlr _).setCell nlr _⟩
    have hf:z=false:=by rw[i.out];first|(simp[okB, *];done)|simp[okB, *,size49]
    subst hf;obtain⟨k,l,j,C,A,B,m⟩:=res3 h.out
    go_wp2_with fail
    obtain⟨s0,s1,s2⟩:=set3 (a':=.bool false) (b':=.string ⟨#[]⟩) (c':=.string ⟨#[]⟩) k l j;exact bodyPost_ret (z0u rfl _ _ w.heap.size false ⟨#[]⟩ ⟨#[]⟩ false rfl rfl s0 s1 s2) rfl ⟨rfl,((c.out.setCell nlr _).setCell nlr _).setCell nlr _⟩
   have hf:z=false:=by rw[i.out];first|(simp[okB, *];done)|simp[okB, *,size49]
   subst hf;obtain⟨k,l,j,C,A,B,m⟩:=res3 h.out
   go_wp2_with fail
   obtain⟨s0,s1,s2⟩:=set3 (a':=.bool false) (b':=.string ⟨#[]⟩) (c':=.string ⟨#[]⟩) k l j;exact bodyPost_ret (z0u rfl _ _ w.heap.size false ⟨#[]⟩ ⟨#[]⟩ false rfl rfl s0 s1 s2) rfl ⟨rfl,((c.out.setCell nlr _).setCell nlr _).setCell nlr _⟩
  have g2:(400:Int)<(d.size:Int):=by omega
  have hf:z=false:=by rw[i.out];first|(simp[okB, *];done)|simp[okB, *,size49]
  subst hf;obtain⟨k,l,j,C,A,B,m⟩:=res3 h.out
  go_wp2_with fail
  obtain⟨s0,s1,s2⟩:=set3 (a':=.bool false) (b':=.string ⟨#[]⟩) (c':=.string ⟨#[]⟩) k l j;exact bodyPost_ret (z0u rfl _ _ w.heap.size false ⟨#[]⟩ ⟨#[]⟩ false rfl rfl s0 s1 s2) rfl ⟨rfl,((c.out.setCell nlr _).setCell nlr _).setCell nlr _⟩
 have S:(400:Int)<(n.size:Int):=by omega
 have hf:z=false:=by rw[i.out];first|(simp[okB, *];done)|simp[okB, *,size49]
 subst hf;obtain⟨k,l,j,C,A,B,m⟩:=res3 h.out
 go_wp2_with fail
 obtain⟨s0,s1,s2⟩:=set3 (a':=.bool false) (b':=.string ⟨#[]⟩) (c':=.string ⟨#[]⟩) k l j;exact bodyPost_ret (z0u rfl _ _ w.heap.size false ⟨#[]⟩ ⟨#[]⟩ false rfl rfl s0 s1 s2) rfl ⟨rfl,((c.out.setCell nlr _).setCell nlr _).setCell nlr _⟩
end
section
open Go.RowKit
theorem str_eq {l r:List UInt8}:((str l).toList==r)=decide (l=r):=by
 rw[Lib.toList_data];show (bts (str l)==r)=_;rw[z2u,Bool.eq_iff_iff];simp
def prsV (o:Option Rat):Value:=match o with|some q=>nv q|none=>NoNum
theorem y6z (o:Option Rat):∃ r x y,prsV o=.agg #[.bool r,.string x,.string y]:=by cases o<;>exact⟨_,_,_,rfl⟩
theorem z7q (s:ByteArray) (w:World) (J:s.size<=9223372036854775807) (C:Tab w) :
  Calls prog 191 #[.string s] w fun e w' =>
   e=.returned (.tuple #[prsV (prs s),.bool (prs s).isSome])/\Below w.heap.size w w':=by
 have i:(z1a (bts s)).length<=s.size:=by
  unfold z1a;split
  ·rw[List.length_tail,z1n];omega
  rw[z1n];omega
 have B:(upTo (z1a (bts s))).length<=s.size:=Nat.le_trans (List.takeWhile_sublist _).length_le i;have D:(z6k (z1a (bts s))).length<=s.size:=by
  unfold z6k;rw[List.length_tail];have:=(List.dropWhile_sublist (· != 47) (l:=z1a (bts s))).length_le;omega
 have G:∀ c,Below w.heap.size w c->Tab c:=fun c h=>C.below h nlr;have k:str (denL (z1a (bts s)))=if hasS (z1a (bts s)) then str (if hasS (z1a (bts s)) then z6k (z1a (bts s)) else []) else ⟨#[49]⟩:=by
  unfold denL;cases hasS (z1a (bts s))<;>rfl
 have m:(str (denL (z1a (bts s)))).size<=9223372036854775807:=by
  rw[z1f];unfold denL;split
  ·omega
  show 1<=_;omega
 have H:=v1n s (str (z1a (bts s))) (str (upTo (z1a (bts s)))) (str (if hasS (z1a (bts s)) then z6k (z1a (bts s)) else [])) (str (denL (z1a (bts s))))
  (str (dec (Nat.gcd (num (upTo (z1a (bts s)))) (num (denL (z1a (bts s))))))) (z6m (bts s)) (hasS (z1a (bts s))) (z1t (upTo (z1a (bts s)))) (z1t (denL (z1a (bts s)))) w
  k (by rw[z1f];omega) m (fun c _=>v7g s c)
  (fun c _=>by
   have:=v8q (str (z1a (bts s))) c (by rw[z1f];omega);rw[z2u] at this;exact this)
  (fun c=>by
   have:=z3x (str (upTo (z1a (bts s)))) c (by rw[z1f];unfold maxLen;omega);unfold vld at this;rw[z2u] at this;exact this)
  (fun c=>by
   have:=z3x (str (denL (z1a (bts s)))) c (by unfold maxLen;omega);unfold vld at this;rw[z2u] at this;exact this)
  (fun z u c h=>by
   have p:=z9q z;have A:=z9q u;have E:fits (num (upTo (z1a (bts s)))):=by unfold fits;rw[p];exact(z4h z).2.1
   have F:fits (num (denL (z1a (bts s)))):=by unfold fits;rw[A];exact(z4h u).2.1
   have:=v1i _ _ c E F (G c h);rw[p,A] at this;exact this)
 refine H.mono ?_;rintro e w' ⟨rfl,hb⟩;refine⟨?_,hb⟩;have g:okB (z6m (bts s)) (hasS (z1a (bts s))) (z1t (upTo (z1a (bts s)))) (z1t (denL (z1a (bts s)))) (str (upTo (z1a (bts s)))) (str (denL (z1a (bts s)))) (str (dec (Nat.gcd (num (upTo (z1a (bts s)))) (num (denL (z1a (bts s)))))))
   = okP (z6m (bts s)) (upTo (z1a (bts s))) (denL (z1a (bts s))) (hasS (z1a (bts s))):=by
  unfold okB okP;rw[str_eq,str_eq,str_eq,str_eq,z1f,z1f];have I:∀ n,(decide (dec n=[49]))=decide (n=1):=fun n=>by
   rw[decide_eq_decide];exact⟨fun h=>z7p (h.trans z5x.symm),fun h=>by rw[h,z5x]⟩
  rw[I];have hb:∀ l r:List UInt8,(l==r)=decide (l=r):=fun l r=>by rw[Bool.eq_iff_iff];simp
  simp only[hb]
 rw[g];cases o:okP (z6m (bts s)) (upTo (z1a (bts s))) (denL (z1a (bts s))) (hasS (z1a (bts s)))
 ·have d:prs s=none:=by unfold prs prsL;rw[o];rfl
  rw[d];rfl
 have d:prs s=some (mkRat (sg (z6m (bts s)) (num (upTo (z1a (bts s))))) (num (denL (z1a (bts s))))):=by unfold prs prsL;rw[o];rfl
 have j:=(y9j d).2;rw[d];simp only[prsV,nv,j.sign,j.top,j.bot];rfl
end
section
open Go.RowKit
theorem v2n (g:FuncId) (p q:Bool) (s z A u:ByteArray) (E:Ending) (o m l:Nat) (w:World) (D:(∃ r x y,E=.returned (.agg #[.bool r,.string x,.string y]))\/E=PT)
  (P:∀ args w,(callFunc g args).run prog w=.ok (.enter g args) w) (T:o<w.heap.size) (K:m<w.heap.size) (S:l<w.heap.size)
  (c0:w.cell? ⟨o,0,none⟩=some (.func (.func g) #[] #[])) (O:w.cell? ⟨m,0,none⟩=some (.bool p)) (I:w.cell? ⟨m,1,none⟩=some (.string s)) (L:w.cell? ⟨m,2,none⟩=some (.string z))
  (N:w.cell? ⟨l,0,none⟩=some (.bool q)) (J:w.cell? ⟨l,1,none⟩=some (.string A)) (W:w.cell? ⟨l,2,none⟩=some (.string u))
  (i:∀ wx,Below w.heap.size w wx->Calls prog g #[nvS p s z,nvS q A u] wx fun e w'=>e=E/\Below wx.heap.size wx w') :
  Calls prog 200 #[.pointer (some ⟨o,0,none⟩),.pointer (some ⟨m,0,none⟩),.pointer (some ⟨l,0,none⟩)] w fun e w'=>e=E/\Below w.heap.size w w':=by
 unfold nvS at i;have j:=qh i;clear i;have k:Below w.heap.size w (w.alloc (.cells #[.bool false,.string ⟨#[]⟩,.string ⟨#[]⟩] 189)):=blr.alloc nlr _;have h:=qh k;clear k
 rcases D with ⟨r,x,y,rfl⟩|rfl
 ·go_enter func200,ntmps200
  go_wp2_with fail
  refine(j.out _ h.out).mono ?_;rintro e H ⟨rfl,c⟩;have d:=qh c;clear c;obtain⟨C,F,B,U,Q,R,G⟩:=res3 d.out;obtain⟨s0,s1,s2⟩:=set3 (a':=.bool r) (b':=.string x) (c':=.string y) C F B
  go_wp2_with fail
  exact bodyPost_ret (z3p rfl _ _ w.heap.size r x y rfl s0 s1 s2) rfl ⟨rfl,(((z0a h.out d.out).setCell nlr _).setCell nlr _).setCell nlr _⟩
 unfold PT at j ⊢
 go_enter func200,ntmps200
 go_wp2_with fail
 refine(j.out _ h.out).mono ?_;rintro e H ⟨rfl,c⟩;have d:=qh c;clear c
 go_wp2_with fail
 exact⟨rfl,rfl,z0a h.out d.out⟩
theorem qE (q:Rat):(∃ r x y,(if fitQ q then .returned (nv q) else PT)=Ending.returned (.agg #[.bool r,.string x,.string y]))\/(if fitQ q then .returned (nv q) else PT)=PT:=by
 by_cases h:fitQ q
 ·rw[if_pos h];exact .inl ⟨_,_,_,rfl⟩
 rw[if_neg h];exact .inr rfl
def okR (F:Rat->Rat->Rat) (a b:ByteArray):ByteArray × Nat:=match prs a,prs b with|some x,some y=>limR (F x y)|_,_=>(str [],1)
theorem z5t (g:FuncId) (F:Rat->Rat->Rat) (a b:ByteArray) (w:World) (W:a.size<=9223372036854775807) (hb:b.size<=9223372036854775807) (S:Tab w)
  (T:∀ args w,(callFunc g args).run prog w=.ok (.enter g args) w)
  (z:∀ x y,prs a=some x->prs b=some y->∀ wx,Below w.heap.size w wx->Calls prog g #[nv x,nv y] wx (QEnd (F x y) wx)) :
  Calls prog 185 #[.string a,.string b,.func (.func g) #[] #[]] w (PairEnd (okR F a b) w):=by
 have a1:∀ (fn:Fn) (first cap:Array Value) (w:World),(Instr.makeFunc fn first cap).run prog w=.ok (.func fn first cap) w:=fun _ _ _ _=>rfl
 have Q:∀ wx,Below w.heap.size w wx->Tab wx:=fun wx h=>S.below h nlr;have c1:=fun wx (h:Below w.heap.size w wx)=>z7q a wx W (Q wx h);have c2:=fun wx (h:Below w.heap.size w wx)=>z7q b wx hb (Q wx h);have O:=qh T;clear T;have u:=qh z;clear z;clear Q S W hb;have K:Below w.heap.size w (w.alloc (.cells #[.func (.func g) #[] #[]] 191)):=blr.alloc nlr _;have k:=qh K;clear K;cases C:prs a with
 | none =>
  have D:okR F a b=(str [],1):=by unfold okR;rw[C]
  rw[D];simp only[C,Option.isSome,prsV] at c1;clear D u C;have I:=qh c1;clear c1;generalize (prs b).isSome=o at c2;obtain⟨r,x,y,U⟩:=y6z (prs b);rw[U] at c2;clear U;have J:=qh c2;clear c2;unfold NoNum nvS at I
  go_enter func185,ntmps185
  go_wp2_with fail
  refine(I.out _ k.out).mono ?_;rintro e A ⟨rfl,c⟩;have l:=qh ((z0a k.out c).alloc (Nat.le_trans k.out.size c.size) (.cells #[.bool false,.string ⟨#[]⟩,.string ⟨#[]⟩] 189));clear c
  go_wp2_with fail
  refine(J.out _ l.out).mono ?_;rintro e B ⟨rfl,d⟩;have j:=qh (z0a l.out d);clear d;go_wp2;go_ret2;exact⟨rfl,j.out.alloc j.out.size _⟩
 | some x =>
  simp only[C,Option.isSome,prsV] at c1;have I:=qh c1;clear c1;cases G:prs b with
  | none =>
   have D:okR F a b=(str [],1):=by unfold okR;rw[C,G]
   rw[D];simp only[G,Option.isSome,prsV] at c2;clear D u C G;have J:=qh c2;clear c2;unfold nv nvS at I;unfold NoNum nvS at J
   go_enter func185,ntmps185
   go_wp2_with fail
   refine(I.out _ k.out).mono ?_;rintro e A ⟨rfl,c⟩;have l:=qh ((z0a k.out c).alloc (Nat.le_trans k.out.size c.size) (.cells #[.bool (negQ x),.string (str (dec x.num.natAbs)),.string (str (dec x.den))] 189));clear c
   go_wp2_with fail
   refine(J.out _ l.out).mono ?_;rintro e B ⟨rfl,d⟩;have j:=qh (z0a l.out d);clear d;go_wp2;go_ret2;exact⟨rfl,j.out.alloc j.out.size _⟩
  | some y =>
   have D:okR F a b=limR (F x y):=by unfold okR;rw[C,G]
   rw[D];simp only[G,Option.isSome,prsV] at c2;have z:=fun wx h=>u.out x y C G wx h;clear D u C G;have u:=qh z;clear z;have J:=qh c2;clear c2;unfold nv nvS at I J
   go_enter func185,ntmps185
   go_wp2_with fail
   refine(I.out _ k.out).mono ?_;rintro e A ⟨rfl,c⟩;have N:=qh c;have l:=qh ((z0a k.out c).alloc (Nat.le_trans k.out.size c.size) (.cells #[.bool (negQ x),.string (str (dec x.num.natAbs)),.string (str (dec x.den))] 189));clear c
   go_wp2_with fail
   refine(J.out _ l.out).mono ?_;rintro e B ⟨rfl,d⟩;have E:=qh d;have j:=qh ((z0a l.out d).alloc (Nat.le_trans l.out.size d.size) (.cells #[.bool (negQ y),.string (str (dec y.num.natAbs)),.string (str (dec y.den))] 189));clear d
   go_wp2_with fail
   refine(x2w _ (F x y) _ (fun wx h=>?_)).mono ?_
   ·have z0:=N.out.size;have Z:=E.out.size;have z2:=h.size;rw[World.size_alloc] at z0 Z z2;have s0:w.heap.size<(w.alloc (.cells #[.func (.func g) #[] #[]] 191)).heap.size:=by rw[World.size_alloc];omega
    have s1:∀ o,A.heap.size<(A.alloc o).heap.size:=fun o=>by rw[World.size_alloc];omega
    have s2:∀ o,B.heap.size<(B.alloc o).heap.size:=fun o=>by rw[World.size_alloc];omega
    have H:wx.cell? ⟨w.heap.size,0,none⟩=some (.func (.func g) #[] #[]):=by
     refine(h.cell (p:=⟨w.heap.size,0,none⟩) (by rw[World.size_alloc];show w.heap.size<_;omega)).trans ?_;rw[World.cell?_alloc_past (hn:=by omega)];refine(E.out.cell (p:=⟨w.heap.size,0,none⟩) (by rw[World.size_alloc];show w.heap.size<_;omega)).trans ?_;rw[World.cell?_alloc_past (hn:=by omega)];refine(N.out.cell (p:=⟨w.heap.size,0,none⟩) s0).trans ?_;simp[go_sem]
    have s:∀ (i:Nat) (v:Value),(A.alloc (.cells #[.bool (negQ x),.string (str (dec x.num.natAbs)),.string (str (dec x.den))] 189)).cell? ⟨A.heap.size,i,none⟩=some v->wx.cell? ⟨A.heap.size,i,none⟩=some v:=by
     intro i v R;refine(h.cell (p:=⟨A.heap.size,i,none⟩) (by rw[World.size_alloc];show A.heap.size<_;omega)).trans ?_;rw[World.cell?_alloc_past (hn:=by omega)];exact(E.out.cell (p:=⟨A.heap.size,i,none⟩) (s1 _)).trans R
    have m:∀ (i:Nat) (v:Value),(B.alloc (.cells #[.bool (negQ y),.string (str (dec y.num.natAbs)),.string (str (dec y.den))] 189)).cell? ⟨B.heap.size,i,none⟩=some v->wx.cell? ⟨B.heap.size,i,none⟩=some v:=by
     intro i v R;exact(h.cell (p:=⟨B.heap.size,i,none⟩) (s2 _)).trans R
    exact v2n g _ _ _ _ _ _ _ w.heap.size A.heap.size B.heap.size wx (qE (F x y)) O.out (by omega) (by omega) (by omega) H
     (s 0 _ (by simp[go_sem])) (s 1 _ (by simp[go_sem])) (s 2 _ (by simp[go_sem])) (m 0 _ (by simp[go_sem])) (m 1 _ (by simp[go_sem])) (m 2 _ (by simp[go_sem]))
     (fun Y X=>u.out Y ((z0a j.out h).trans (X.mono (z0a j.out h).size)))
   rintro e w3 ⟨rfl,L⟩;have P:=qh (z0a j.out L);clear L;generalize limR (F x y)=lr at *;obtain⟨ls,ln⟩:=lr;go_wp2;go_ret2;exact⟨rfl,P.out⟩
end
section
open Go.RowKit
attribute [local go_sem ↓] Go.wp_at_zero Go.wp_at_succ
theorem v5f (p q:Bool) (h l i k a b c d:ByteArray) (s:Bool) (E:Ending) (w:World) (Y:(∃ r x y,E=.returned (.agg #[.bool r,.string x,.string y]))\/E=PT)
  (c1:∀ wx,Below w.heap.size w wx->Calls prog 189 #[.string h,.string k] wx (StrZ a wx))
  (c2:∀ wx,Below w.heap.size w wx->Calls prog 189 #[.string i,.string l] wx (StrZ b wx))
  (c3:∀ wx,Below w.heap.size w wx->Calls prog 187 #[.bool p,.string a,.bool q,.string b] wx fun e w'=>e=.returned (.tuple #[.bool s,.string c])/\Below wx.heap.size wx w')
  (c4:∀ wx,Below w.heap.size w wx->Calls prog 189 #[.string l,.string k] wx (StrZ d wx))
  (c5:∀ wx,Below w.heap.size w wx->Calls prog 190 #[.bool s,.string c,.string d] wx fun e w'=>e=E/\Below wx.heap.size wx w') :
  Calls prog 186 #[nvS p h l,nvS q i k] w fun e w'=>e=E/\Below w.heap.size w w':=by
 have L:=qh c1;clear c1;have N:=qh c2;clear c2;have J:=qh c3;clear c3;have K:=qh c4;clear c4;have G:=qh c5;clear c5;have g:=qh (y2n p q h l i k w);have P:Below (WR p q h l i k w).heap.size (WR p q h l i k w) (WR p q h l i k w).drew:=blr.drew;unfold nvS
 rcases Y with ⟨r,x,y,rfl⟩|rfl
 ·-- a number
  go_enter func186,ntmps186
  go_wp2_with fail
  change Code.wp _ _ _ _ (WR p q h l i k w)
  go_region_held2 (fun j=>Below (WR p q h l i k w).heap.size (WR p q h l i k w) j /\
   j.cell? ⟨w.heap.size,0,none⟩=some (.bool p)/\j.cell? ⟨w.heap.size,1,none⟩=some (.string h)/\j.cell? ⟨w.heap.size,2,none⟩=some (.string l) /\
   j.cell? ⟨w.heap.size+1,0,none⟩=some (.bool q)/\j.cell? ⟨w.heap.size+1,1,none⟩=some (.string i)/\j.cell? ⟨w.heap.size+1,2,none⟩=some (.string k))
   (first|exact z6g (by assumption)|exact z6g blr.drew)
   (first
   | (go_at_call_of 189 (Value.string h);refine(L.out _ (z0a g.out (by assumption))).mono ?_;rintro e w1 ⟨rfl,z⟩;have F:=z0a (by assumption) z)
   | (go_at_call_of 189 (Value.string i);refine(N.out _ (z0a g.out (by assumption))).mono ?_;rintro e O ⟨rfl,D⟩;have H:=z0a (by assumption) D)
   | (go_at_call 188;refine(z1q _ _).mono ?_;rintro e w' ⟨rfl,rfl⟩)
   | (go_at_call 187;refine(J.out _ (z0a g.out (by assumption))).mono ?_;rintro e T ⟨rfl,A⟩;have m:=z0a (by assumption) A))
  rename_i I;obtain⟨_,U,R,e2,W,e4,X⟩:=I
  go_wp2_with fail
  refine(K.out _ (z0a g.out m)).mono ?_;rintro e w4 ⟨rfl,B⟩;have o:=z0a m B
  go_wp2_with fail
  refine(z1q _ _).mono ?_;rintro e w' ⟨rfl,rfl⟩
  go_wp2_with fail
  refine(G.out _ (z0a g.out o)).mono ?_;rintro e Z ⟨rfl,C⟩;have u:=z0a o C;obtain⟨S,k1,Q,f0,f1,f2⟩:=y6m u;obtain⟨s0,s1,s2⟩:=set3 (a':=.bool r) (b':=.string x) (c':=.string y) S k1 Q
  go_wp2_with fail
  refine bodyPost_ret (z3p rfl _ _ (w.heap.size+1+1) r x y rfl s0 s1 s2) rfl ⟨rfl,(((z0a g.out u).setCell ?_ _).setCell ?_ _).setCell ?_ _⟩<;>(show w.heap.size<=w.heap.size+1+1;omega)
 unfold PT at G ⊢
 go_enter func186,ntmps186
 go_wp2_with fail
 change Code.wp _ _ _ _ (WR p q h l i k w)
 go_region_held2 (fun j=>Below (WR p q h l i k w).heap.size (WR p q h l i k w) j /\
  j.cell? ⟨w.heap.size,0,none⟩=some (.bool p)/\j.cell? ⟨w.heap.size,1,none⟩=some (.string h)/\j.cell? ⟨w.heap.size,2,none⟩=some (.string l) /\
  j.cell? ⟨w.heap.size+1,0,none⟩=some (.bool q)/\j.cell? ⟨w.heap.size+1,1,none⟩=some (.string i)/\j.cell? ⟨w.heap.size+1,2,none⟩=some (.string k))
  (first|exact z6g (by assumption)|exact z6g blr.drew)
  (first
  | (go_at_call_of 189 (Value.string h);refine(L.out _ (z0a g.out (by assumption))).mono ?_;rintro e w1 ⟨rfl,z⟩;have F:=z0a (by assumption) z)
  | (go_at_call_of 189 (Value.string i);refine(N.out _ (z0a g.out (by assumption))).mono ?_;rintro e O ⟨rfl,D⟩;have H:=z0a (by assumption) D)
  | (go_at_call 188;refine(z1q _ _).mono ?_;rintro e w' ⟨rfl,rfl⟩)
  | (go_at_call 187;refine(J.out _ (z0a g.out (by assumption))).mono ?_;rintro e T ⟨rfl,A⟩;have m:=z0a (by assumption) A))
 rename_i I;obtain⟨_,U,R,e2,W,e4,X⟩:=I
 go_wp2_with fail
 refine(K.out _ (z0a g.out m)).mono ?_;rintro e w4 ⟨rfl,B⟩;have o:=z0a m B
 go_wp2_with fail
 refine(z1q _ _).mono ?_;rintro e w' ⟨rfl,rfl⟩
 go_wp2_with fail
 refine(G.out _ (z0a g.out o)).mono ?_;rintro e Z ⟨rfl,C⟩;have u:=z0a o C
 go_wp2_with fail
 exact⟨rfl,rfl,z0a g.out u⟩
theorem v3f (p q:Bool) (h l i k a b c d:ByteArray) (s:Bool) (E:Ending) (w:World) (Y:(∃ r x y,E=.returned (.agg #[.bool r,.string x,.string y]))\/E=PT)
  (c1:∀ wx,Below w.heap.size w wx->Calls prog 189 #[.string h,.string k] wx (StrZ a wx))
  (c2:∀ wx,Below w.heap.size w wx->Calls prog 189 #[.string i,.string l] wx (StrZ b wx))
  (c3:∀ wx,Below w.heap.size w wx->Calls prog 187 #[.bool p,.string a,.bool (!q),.string b] wx fun e w'=>e=.returned (.tuple #[.bool s,.string c])/\Below wx.heap.size wx w')
  (c4:∀ wx,Below w.heap.size w wx->Calls prog 189 #[.string l,.string k] wx (StrZ d wx))
  (c5:∀ wx,Below w.heap.size w wx->Calls prog 190 #[.bool s,.string c,.string d] wx fun e w'=>e=E/\Below wx.heap.size wx w') :
  Calls prog 212 #[nvS p h l,nvS q i k] w fun e w'=>e=E/\Below w.heap.size w w':=by
 have L:=qh c1;clear c1;have N:=qh c2;clear c2;have J:=qh c3;clear c3;have K:=qh c4;clear c4;have G:=qh c5;clear c5;have g:=qh (y2n p q h l i k w);have P:Below (WR p q h l i k w).heap.size (WR p q h l i k w) (WR p q h l i k w).drew:=blr.drew;unfold nvS
 rcases Y with ⟨r,x,y,rfl⟩|rfl
 ·-- a number
  go_enter func212,ntmps212
  go_wp2_with fail
  change Code.wp _ _ _ _ (WR p q h l i k w)
  go_region_held2 (fun j=>Below (WR p q h l i k w).heap.size (WR p q h l i k w) j /\
   j.cell? ⟨w.heap.size,0,none⟩=some (.bool p)/\j.cell? ⟨w.heap.size,1,none⟩=some (.string h)/\j.cell? ⟨w.heap.size,2,none⟩=some (.string l) /\
   j.cell? ⟨w.heap.size+1,0,none⟩=some (.bool q)/\j.cell? ⟨w.heap.size+1,1,none⟩=some (.string i)/\j.cell? ⟨w.heap.size+1,2,none⟩=some (.string k))
   (first|exact z6g (by assumption)|exact z6g blr.drew)
   (first
   | (go_at_call_of 189 (Value.string h);refine(L.out _ (z0a g.out (by assumption))).mono ?_;rintro e w1 ⟨rfl,z⟩;have F:=z0a (by assumption) z)
   | (go_at_call_of 189 (Value.string i);refine(N.out _ (z0a g.out (by assumption))).mono ?_;rintro e O ⟨rfl,D⟩;have H:=z0a (by assumption) D)
   | (go_at_call 188;refine(z1q _ _).mono ?_;rintro e w' ⟨rfl,rfl⟩)
   | (go_at_call 187;refine(J.out _ (z0a g.out (by assumption))).mono ?_;rintro e T ⟨rfl,A⟩;have m:=z0a (by assumption) A))
  rename_i I;obtain⟨_,U,R,e2,W,e4,X⟩:=I
  go_wp2_with fail
  refine(K.out _ (z0a g.out m)).mono ?_;rintro e w4 ⟨rfl,B⟩;have o:=z0a m B
  go_wp2_with fail
  refine(z1q _ _).mono ?_;rintro e w' ⟨rfl,rfl⟩
  go_wp2_with fail
  refine(G.out _ (z0a g.out o)).mono ?_;rintro e Z ⟨rfl,C⟩;have u:=z0a o C;obtain⟨S,k1,Q,f0,f1,f2⟩:=y6m u;obtain⟨s0,s1,s2⟩:=set3 (a':=.bool r) (b':=.string x) (c':=.string y) S k1 Q
  go_wp2_with fail
  refine bodyPost_ret (z3p rfl _ _ (w.heap.size+1+1) r x y rfl s0 s1 s2) rfl ⟨rfl,(((z0a g.out u).setCell ?_ _).setCell ?_ _).setCell ?_ _⟩<;>(show w.heap.size<=w.heap.size+1+1;omega)
 unfold PT at G ⊢
 go_enter func212,ntmps212
 go_wp2_with fail
 change Code.wp _ _ _ _ (WR p q h l i k w)
 go_region_held2 (fun j=>Below (WR p q h l i k w).heap.size (WR p q h l i k w) j /\
  j.cell? ⟨w.heap.size,0,none⟩=some (.bool p)/\j.cell? ⟨w.heap.size,1,none⟩=some (.string h)/\j.cell? ⟨w.heap.size,2,none⟩=some (.string l) /\
  j.cell? ⟨w.heap.size+1,0,none⟩=some (.bool q)/\j.cell? ⟨w.heap.size+1,1,none⟩=some (.string i)/\j.cell? ⟨w.heap.size+1,2,none⟩=some (.string k))
  (first|exact z6g (by assumption)|exact z6g blr.drew)
  (first
  | (go_at_call_of 189 (Value.string h);refine(L.out _ (z0a g.out (by assumption))).mono ?_;rintro e w1 ⟨rfl,z⟩;have F:=z0a (by assumption) z)
  | (go_at_call_of 189 (Value.string i);refine(N.out _ (z0a g.out (by assumption))).mono ?_;rintro e O ⟨rfl,D⟩;have H:=z0a (by assumption) D)
  | (go_at_call 188;refine(z1q _ _).mono ?_;rintro e w' ⟨rfl,rfl⟩)
  | (go_at_call 187;refine(J.out _ (z0a g.out (by assumption))).mono ?_;rintro e T ⟨rfl,A⟩;have m:=z0a (by assumption) A))
 rename_i I;obtain⟨_,U,R,e2,W,e4,X⟩:=I
 go_wp2_with fail
 refine(K.out _ (z0a g.out m)).mono ?_;rintro e w4 ⟨rfl,B⟩;have o:=z0a m B
 go_wp2_with fail
 refine(z1q _ _).mono ?_;rintro e w' ⟨rfl,rfl⟩
 go_wp2_with fail
 refine(G.out _ (z0a g.out o)).mono ?_;rintro e Z ⟨rfl,C⟩;have u:=z0a o C
 go_wp2_with fail
 exact⟨rfl,rfl,z0a g.out u⟩
theorem v3i (p q:Bool) (g h j i a b:ByteArray) (E:Ending) (w:World) (K:(∃ r x y,E=.returned (.agg #[.bool r,.string x,.string y]))\/E=PT)
  (c1:∀ wx,Below w.heap.size w wx->Calls prog 189 #[.string g,.string j] wx (StrZ a wx))
  (c2:∀ wx,Below w.heap.size w wx->Calls prog 189 #[.string h,.string i] wx (StrZ b wx))
  (c5:∀ wx,Below w.heap.size w wx->Calls prog 190 #[.bool (p != q),.string a,.string b] wx fun e w'=>e=E/\Below wx.heap.size wx w') :
  Calls prog 192 #[nvS p g h,nvS q j i] w fun e w'=>e=E/\Below w.heap.size w w':=by
 have F:=qh c1;clear c1;have G:=qh c2;clear c2;have z:=qh c5;clear c5;have c:=qh (y2n p q g h j i w);have I:Below (WR p q g h j i w).heap.size (WR p q g h j i w) (WR p q g h j i w).drew:=blr.drew;unfold nvS
 rcases K with ⟨r,x,y,rfl⟩|rfl
 ·-- a number
  go_enter func192,ntmps192
  go_wp2_with fail
  change Code.wp _ _ _ _ (WR p q g h j i w)
  go_region_held2 (fun d=>Below (w.heap.size+1+1) (WR p q g h j i w) d /\
   d.cell? ⟨w.heap.size,0,none⟩=some (.bool p)/\d.cell? ⟨w.heap.size,1,none⟩=some (.string g)/\d.cell? ⟨w.heap.size,2,none⟩=some (.string h) /\
   d.cell? ⟨w.heap.size+1,0,none⟩=some (.bool q)/\d.cell? ⟨w.heap.size+1,1,none⟩=some (.string j)/\d.cell? ⟨w.heap.size+1,2,none⟩=some (.string i))
   (first|exact z2n (y2m (by assumption))|exact z2n (y2m blr.drew)|exact z2n ((((y2m (by assumption)).setCell nlr _).setCell nlr _).setCell nlr _))
   (first
   | (go_at_call_of 189 (Value.string g);refine(F.out _ (z0a c.out (by assumption))).mono ?_;rintro e O ⟨rfl,m⟩;have u:=z0a (by assumption) m)
   | (go_at_call_of 189 (Value.string h);refine(G.out _ (z0a c.out (by assumption))).mono ?_;rintro e H ⟨rfl,s⟩;have A:=z0a (by assumption) s)
   | (go_at_call 188;refine(z1q _ _).mono ?_;rintro e w' ⟨rfl,rfl⟩)
   | (go_at_call 190;refine(z.out _ (z0a c.out (by assumption))).mono ?_;rintro e J ⟨rfl,o⟩;have k:=z0a (by assumption) o;obtain⟨C,D,B,P,L,N⟩:=y6m k;obtain⟨s0,s1,s2⟩:=set3 (a':=.bool r) (b':=.string x) (c':=.string y) C D B))
  go_wp2_with fail
  refine bodyPost_ret (z3p rfl _ _ (w.heap.size+1+1) r x y rfl s0 s1 s2) rfl ⟨rfl,(((z0a c.out k).setCell ?_ _).setCell ?_ _).setCell ?_ _⟩<;>(show w.heap.size<=w.heap.size+1+1;omega)
 unfold PT at z ⊢
 go_enter func192,ntmps192
 go_wp2_with fail
 change Code.wp _ _ _ _ (WR p q g h j i w)
 go_region_held2 (fun d=>Below (w.heap.size+1+1) (WR p q g h j i w) d /\
  d.cell? ⟨w.heap.size,0,none⟩=some (.bool p)/\d.cell? ⟨w.heap.size,1,none⟩=some (.string g)/\d.cell? ⟨w.heap.size,2,none⟩=some (.string h) /\
  d.cell? ⟨w.heap.size+1,0,none⟩=some (.bool q)/\d.cell? ⟨w.heap.size+1,1,none⟩=some (.string j)/\d.cell? ⟨w.heap.size+1,2,none⟩=some (.string i))
  (first|exact z2n (y2m (by assumption))|exact z2n (y2m blr.drew)|exact z2n ((((y2m (by assumption)).setCell nlr _).setCell nlr _).setCell nlr _))
  (first
  | (go_at_call_of 189 (Value.string g);refine(F.out _ (z0a c.out (by assumption))).mono ?_;rintro e O ⟨rfl,m⟩;have u:=z0a (by assumption) m)
  | (go_at_call_of 189 (Value.string h);refine(G.out _ (z0a c.out (by assumption))).mono ?_;rintro e H ⟨rfl,s⟩;have A:=z0a (by assumption) s)
  | (go_at_call 188;refine(z1q _ _).mono ?_;rintro e w' ⟨rfl,rfl⟩)
  | (go_at_call 190;refine(z.out _ (z0a c.out (by assumption))).mono ?_;rintro e J ⟨rfl,o⟩;have k:=z0a (by assumption) o;obtain⟨C,D,B,P,L,N⟩:=y6m k;refine u3c (by assumption) 26 (.agg #[.bool false,.string ⟨#[]⟩,.string ⟨#[]⟩]) ⟨rfl,rfl,z0a c.out k⟩ (fun l=>?_)))
 exact l.out.elim
theorem v3j (p q:Bool) (g h j i a b:ByteArray) (E:Ending) (w:World) (K:(∃ r x y,E=.returned (.agg #[.bool r,.string x,.string y]))\/E=PT)
  (c1:∀ wx,Below w.heap.size w wx->Calls prog 189 #[.string g,.string i] wx (StrZ a wx))
  (c2:∀ wx,Below w.heap.size w wx->Calls prog 189 #[.string h,.string j] wx (StrZ b wx))
  (c5:∀ wx,Below w.heap.size w wx->Calls prog 190 #[.bool (p != q),.string a,.string b] wx fun e w'=>e=E/\Below wx.heap.size wx w') :
  Calls prog 213 #[nvS p g h,nvS q j i] w fun e w'=>e=E/\Below w.heap.size w w':=by
 have F:=qh c1;clear c1;have G:=qh c2;clear c2;have z:=qh c5;clear c5;have c:=qh (y2n p q g h j i w);have I:Below (WR p q g h j i w).heap.size (WR p q g h j i w) (WR p q g h j i w).drew:=blr.drew;unfold nvS
 rcases K with ⟨r,x,y,rfl⟩|rfl
 ·-- a number
  go_enter func213,ntmps213
  go_wp2_with fail
  change Code.wp _ _ _ _ (WR p q g h j i w)
  go_region_held2 (fun d=>Below (w.heap.size+1+1) (WR p q g h j i w) d /\
   d.cell? ⟨w.heap.size,0,none⟩=some (.bool p)/\d.cell? ⟨w.heap.size,1,none⟩=some (.string g)/\d.cell? ⟨w.heap.size,2,none⟩=some (.string h) /\
   d.cell? ⟨w.heap.size+1,0,none⟩=some (.bool q)/\d.cell? ⟨w.heap.size+1,1,none⟩=some (.string j)/\d.cell? ⟨w.heap.size+1,2,none⟩=some (.string i))
   (first|exact z2n (y2m (by assumption))|exact z2n (y2m blr.drew)|exact z2n ((((y2m (by assumption)).setCell nlr _).setCell nlr _).setCell nlr _))
   (first
   | (go_at_call_of 189 (Value.string g);refine(F.out _ (z0a c.out (by assumption))).mono ?_;rintro e O ⟨rfl,m⟩;have u:=z0a (by assumption) m)
   | (go_at_call_of 189 (Value.string h);refine(G.out _ (z0a c.out (by assumption))).mono ?_;rintro e H ⟨rfl,s⟩;have A:=z0a (by assumption) s)
   | (go_at_call 188;refine(z1q _ _).mono ?_;rintro e w' ⟨rfl,rfl⟩)
   | (go_at_call 190;refine(z.out _ (z0a c.out (by assumption))).mono ?_;rintro e J ⟨rfl,o⟩;have k:=z0a (by assumption) o;obtain⟨C,D,B,P,L,N⟩:=y6m k;obtain⟨s0,s1,s2⟩:=set3 (a':=.bool r) (b':=.string x) (c':=.string y) C D B))
  go_wp2_with fail
  refine bodyPost_ret (z3p rfl _ _ (w.heap.size+1+1) r x y rfl s0 s1 s2) rfl ⟨rfl,(((z0a c.out k).setCell ?_ _).setCell ?_ _).setCell ?_ _⟩<;>(show w.heap.size<=w.heap.size+1+1;omega)
 unfold PT at z ⊢
 go_enter func213,ntmps213
 go_wp2_with fail
 change Code.wp _ _ _ _ (WR p q g h j i w)
 go_region_held2 (fun d=>Below (w.heap.size+1+1) (WR p q g h j i w) d /\
  d.cell? ⟨w.heap.size,0,none⟩=some (.bool p)/\d.cell? ⟨w.heap.size,1,none⟩=some (.string g)/\d.cell? ⟨w.heap.size,2,none⟩=some (.string h) /\
  d.cell? ⟨w.heap.size+1,0,none⟩=some (.bool q)/\d.cell? ⟨w.heap.size+1,1,none⟩=some (.string j)/\d.cell? ⟨w.heap.size+1,2,none⟩=some (.string i))
  (first|exact z2n (y2m (by assumption))|exact z2n (y2m blr.drew)|exact z2n ((((y2m (by assumption)).setCell nlr _).setCell nlr _).setCell nlr _))
  (first
  | (go_at_call_of 189 (Value.string g);refine(F.out _ (z0a c.out (by assumption))).mono ?_;rintro e O ⟨rfl,m⟩;have u:=z0a (by assumption) m)
  | (go_at_call_of 189 (Value.string h);refine(G.out _ (z0a c.out (by assumption))).mono ?_;rintro e H ⟨rfl,s⟩;have A:=z0a (by assumption) s)
  | (go_at_call 188;refine(z1q _ _).mono ?_;rintro e w' ⟨rfl,rfl⟩)
  | (go_at_call 190;refine(z.out _ (z0a c.out (by assumption))).mono ?_;rintro e J ⟨rfl,o⟩;have k:=z0a (by assumption) o;obtain⟨C,D,B,P,L,N⟩:=y6m k;refine u3c (by assumption) 26 (.agg #[.bool false,.string ⟨#[]⟩,.string ⟨#[]⟩]) ⟨rfl,rfl,z0a c.out k⟩ (fun l=>?_)))
 exact l.out.elim
end
section
open Go.RowKit
theorem u3e (x y:Rat) (w:World) (g:fitQ x) (d:fitQ y) (m:Tab w):Calls prog 186 #[nv x,nv y] w (QEnd (x+y) w):=by
 have i:∀ c,Below w.heap.size w c->Tab c:=fun c h=>m.below h nlr;have l:fits (x.num.natAbs*y.den):=z3e g.1 d.2;have o:fits (y.num.natAbs*x.den):=z3e d.1 g.2;have k:fits (x.num.natAbs*y.den+y.num.natAbs*x.den):=y8m g.1 d.2 d.1 g.2;have j:fits (x.den*y.den):=z3e g.2 d.2;unfold QEnd;rw[u4m x y];exact v5f (negQ x) (negQ y) _ _ _ _ (str (dec (x.num.natAbs*y.den))) (str (dec (y.num.natAbs*x.den))) _ (str (dec (x.den*y.den))) _ _ w (qE _)
  (fun c h=>z4x _ _ c (z6j g) (z3w d) l (i c h)) (fun c h=>z4x _ _ c (z6j d) (z3w g) o (i c h))
  (fun c h=>y1f (negQ x) (negQ y) _ _ c k (i c h)) (fun c h=>z4x _ _ c (z3w g) (z3w d) j (i c h))
  (fun c h=>y0i _ _ _ c (z9f k (x9y _ _ _ _)) j (Nat.mul_ne_zero x.den_nz y.den_nz) (i c h))
theorem u3t (x y:Rat) (w:World) (g:fitQ x) (d:fitQ y) (m:Tab w):Calls prog 212 #[nv x,nv y] w (QEnd (x-y) w):=by
 have i:∀ c,Below w.heap.size w c->Tab c:=fun c h=>m.below h nlr;have l:fits (x.num.natAbs*y.den):=z3e g.1 d.2;have o:fits (y.num.natAbs*x.den):=z3e d.1 g.2;have k:fits (x.num.natAbs*y.den+y.num.natAbs*x.den):=y8m g.1 d.2 d.1 g.2;have j:fits (x.den*y.den):=z3e g.2 d.2;unfold QEnd;rw[u3x x y];exact v3f (negQ x) (negQ y) _ _ _ _ (str (dec (x.num.natAbs*y.den))) (str (dec (y.num.natAbs*x.den))) _ (str (dec (x.den*y.den))) _ _ w (qE _)
  (fun c h=>z4x _ _ c (z6j g) (z3w d) l (i c h)) (fun c h=>z4x _ _ c (z6j d) (z3w g) o (i c h))
  (fun c h=>y1f (negQ x) (!negQ y) _ _ c k (i c h)) (fun c h=>z4x _ _ c (z3w g) (z3w d) j (i c h))
  (fun c h=>y0i _ _ _ c (z9f k (x9y _ _ _ _)) j (Nat.mul_ne_zero x.den_nz y.den_nz) (i c h))
theorem u4b (x y:Rat) (w:World) (g:fitQ x) (d:fitQ y) (l:Tab w):Calls prog 192 #[nv x,nv y] w (QEnd (x*y) w):=by
 have i:∀ c,Below w.heap.size w c->Tab c:=fun c h=>l.below h nlr;have j:fits (x.num.natAbs*y.num.natAbs):=z3e g.1 d.1;have k:fits (x.den*y.den):=z3e g.2 d.2;unfold QEnd;rw[u2t x y];exact v3i (negQ x) (negQ y) _ _ _ _ (str (dec (x.num.natAbs*y.num.natAbs))) (str (dec (x.den*y.den))) _ w (qE _)
  (fun c h=>z4x _ _ c (z6j g) (z6j d) j (i c h)) (fun c h=>z4x _ _ c (z3w g) (z3w d) k (i c h))
  (fun c h=>y0i _ _ _ c j k (Nat.mul_ne_zero x.den_nz y.den_nz) (i c h))
theorem u4g (x y:Rat) (w:World) (g:fitQ x) (d:fitQ y) (l:y≠0) (m:Tab w):Calls prog 213 #[nv x,nv y] w (QEnd (x / y) w):=by
 have i:∀ c,Below w.heap.size w c->Tab c:=fun c h=>m.below h nlr;have j:fits (x.num.natAbs*y.den):=z3e g.1 d.2;have k:fits (x.den*y.num.natAbs):=z3e g.2 d.1;unfold QEnd;rw[u3j x y];exact v3j (negQ x) (negQ y) _ _ _ _ (str (dec (x.num.natAbs*y.den))) (str (dec (x.den*y.num.natAbs))) _ w (qE _)
  (fun c h=>z4x _ _ c (z6j g) (z3w d) j (i c h)) (fun c h=>z4x _ _ c (z3w g) (z6j d) k (i c h))
  (fun c h=>y0i _ _ _ c j k ((Nat.mul_ne_zero x.den_nz (fun e=>l (Rat.num_eq_zero.1 (Int.natAbs_eq_zero.1 e))))) (i c h))
theorem v5a:∀ args w,(callFunc 186 args).run prog w=.ok (.enter 186 args) w:=fun args w=>by kernel_rfl
theorem x5d (a b:ByteArray) (w:World) (g:a.size<=9223372036854775807) (hb:b.size<=9223372036854775807) (c:Tab w) :
  Calls prog 158 #[.string a,.string b] w (PairEnd (x0b a b) w):=by
 have d:=z5t 186 (fun x y=>x+y) a b w g hb c v5a (fun x y l j o h=>u3e x y o (z2w l).2 (z2w j).2 (c.below h nlr));have i:okR (fun x y=>x+y) a b=x0b a b:=rfl;rw[i] at d;generalize x0b a b=r at *;obtain⟨p,u⟩:=r;have m:=qh d;clear d i c g hb
 go_enter func158,ntmps158
 go_wp2_with fail
 refine m.out.mono ?_;rintro e s ⟨rfl,hb⟩;have k:=qh hb;clear hb;go_wp2;go_ret2;exact⟨rfl,k.out⟩
theorem v5n:∀ args w,(callFunc 212 args).run prog w=.ok (.enter 212 args) w:=fun args w=>by kernel_rfl
theorem v4a (a b:ByteArray) (w:World) (g:a.size<=9223372036854775807) (hb:b.size<=9223372036854775807) (c:Tab w) :
  Calls prog 193 #[.string a,.string b] w (PairEnd (v0d a b) w):=by
 have d:=z5t 212 (fun x y=>x-y) a b w g hb c v5n (fun x y l j o h=>u3t x y o (z2w l).2 (z2w j).2 (c.below h nlr));have i:okR (fun x y=>x-y) a b=v0d a b:=rfl;rw[i] at d;generalize v0d a b=r at *;obtain⟨p,u⟩:=r;have m:=qh d;clear d i c g hb
 go_enter func193,ntmps193
 go_wp2_with fail
 refine m.out.mono ?_;rintro e s ⟨rfl,hb⟩;have k:=qh hb;clear hb;go_wp2;go_ret2;exact⟨rfl,k.out⟩
theorem v3v:∀ args w,(callFunc 192 args).run prog w=.ok (.enter 192 args) w:=fun args w=>by kernel_rfl
theorem x4a (a b:ByteArray) (w:World) (g:a.size<=9223372036854775807) (hb:b.size<=9223372036854775807) (c:Tab w) :
  Calls prog 162 #[.string a,.string b] w (PairEnd (y7j a b) w):=by
 have d:=z5t 192 (fun x y=>x*y) a b w g hb c v3v (fun x y l j o h=>u4b x y o (z2w l).2 (z2w j).2 (c.below h nlr));have i:okR (fun x y=>x*y) a b=y7j a b:=rfl;rw[i] at d;generalize y7j a b=r at *;obtain⟨p,u⟩:=r;have m:=qh d;clear d i c g hb
 go_enter func162,ntmps162
 go_wp2_with fail
 refine m.out.mono ?_;rintro e s ⟨rfl,hb⟩;have k:=qh hb;clear hb;go_wp2;go_ret2;exact⟨rfl,k.out⟩
theorem z8r (a:ByteArray) (w:World) (d:a.size<=9223372036854775807) (h:Tab w) :
  Calls prog 160 #[.string a] w fun e w'=>e=.returned (.bool (prs a).isSome)/\Below w.heap.size w w':=by
 have c:=z7q a w d h;obtain⟨r,x,y,g⟩:=y6z (prs a);rw[g] at c;generalize (prs a).isSome=o at *;have j:=qh c;clear c g d h
 go_enter func160,ntmps160
 go_wp2_with fail
 refine j.out.mono ?_;rintro e w' ⟨rfl,hb⟩;have i:=qh hb;clear hb;go_wp2;go_ret;exact⟨rfl,i.out⟩
theorem y0m:prs ⟨#[48]⟩=some 0:=by
 have:txt 0=⟨#[48]⟩:=by unfold txt txtL;rw[show negQ 0=false from rfl,show (0:Rat).num.natAbs=0 from rfl,show (0:Rat).den=1 from rfl,z5e];rfl
 rw[<- this];exact z2k (by unfold fitQ;rw[show (0:Rat).num.natAbs=0 from rfl,show (0:Rat).den=1 from rfl,z5e,z5x];decide)
theorem y3i {b:ByteArray} (h:prs b=some 0):b=⟨#[48]⟩:=by
 have c:=(z2w h).1;have d:=(z2w y0m).1;rw[c,d]
theorem x4c:∀ args w,(callFunc 213 args).run prog w=.ok (.enter 213 args) w:=fun args w=>by kernel_rfl
theorem v7h (a b:ByteArray) (w:World) (k:a.size<=9223372036854775807) (hb:b.size<=9223372036854775807) (j:Tab w) :
  Calls prog 194 #[.string a,.string b] w (PairEnd (y5i a b) w):=by
 have c1:=z8r a w k j;by_cases m:b=⟨#[48]⟩
 ·subst m;cases g:prs a with
  | some x =>
   have i:y5i a ⟨#[48]⟩=(str [],4):=by unfold y5i;rw[g,y0m];simp
   rw[i];rw[g] at c1;simp only[Option.isSome] at c1;have l:=qh c1;clear c1 k hb j g i
   go_enter func194,ntmps194
   go_wp2_with fail
   refine l.out.mono ?_;rintro e J ⟨rfl,hb⟩;have E:=qh hb;clear hb;go_wp2;go_ret2;exact⟨rfl,E.out⟩
  | none =>
   have i:y5i a ⟨#[48]⟩=(str [],1):=by unfold y5i;rw[g]
   rw[i];have c2:=fun p (h:Below w.heap.size w p)=>z5t 213 (fun x y=>x / y) a ⟨#[48]⟩ p k hb (j.below h nlr) x4c (fun x y s=>by rw[g] at s;simp at s);have B:okR (fun x y=>x / y) a ⟨#[48]⟩=(str [],1):=by unfold okR;rw[g]
   rw[B] at c2;rw[g] at c1;simp only[Option.isSome] at c1;have l:=qh c1;have u:=qh c2;clear c1 c2 k hb j g i B
   go_enter func194,ntmps194
   go_wp2_with fail
   refine nxa l.out fun C c=>?_
   go_wp2_with fail
   refine nxb (u.out _ c.out) c fun A d=>?_;go_wp2;go_ret2;exact⟨rfl,d.out⟩
 have H:(b.toList==[48])=false:=z4i m;have c2:=fun p (h:Below w.heap.size w p)=>z5t 213 (fun x y=>x / y) a b p k hb (j.below h nlr) x4c
  (fun x y s z F D=>u4g x y F (z2w s).2 (z2w z).2 (fun e=>by subst e;exact m (y3i z)) (j.below (h.trans (D.mono h.size)) nlr))
 have i:okR (fun x y=>x / y) a b=y5i a b:=by
  unfold okR y5i;cases g:prs a with
  | none=>rfl
  | some x =>
   cases G:prs b with
   | none=>rfl
   | some y=>simp only;rw[if_neg (fun e=>by subst e;exact m (y3i G))]
 rw[i] at c2;generalize y5i a b=r at *;obtain⟨I,K⟩:=r;generalize (prs a).isSome=o at *;have l:=qh c1;have u:=qh c2;clear c1 c2 k hb j i m;cases o
 ·go_enter func194,ntmps194
  go_wp2_with fail
  refine nxa l.out fun C c=>?_
  go_wp2_with fail
  refine nxb (u.out _ c.out) c fun A d=>?_;go_wp2;go_ret2;exact⟨rfl,d.out⟩
 go_enter func194,ntmps194
 go_wp2_with fail
 refine nxa l.out fun C c=>?_
 go_wp2_with fail
 refine nxb (u.out _ c.out) c fun A d=>?_;go_wp2;go_ret2;exact⟨rfl,d.out⟩
end
section
open Go.RowKit
attribute [local go_sem ↓] Go.wp_at_zero Go.wp_at_succ
theorem v9s (p q:Bool) (A D u B a b c:ByteArray) (s:Bool) (v:Int) (s1 s2:ByteArray) (w:World)
  (E:((c.toList==[48])=true/\v=0)\/((c.toList==[48])=false/\s=true/\v=-1)\/((c.toList==[48])=false/\s=false/\v=1))
  (c0:∀ wx,Below w.heap.size w wx->Calls prog 191 #[.string s1] wx fun e w'=>e=.returned (.tuple #[.agg #[.bool p,.string A,.string D],.bool true])/\Below wx.heap.size wx w')
  (H:∀ wx,Below w.heap.size w wx->Calls prog 191 #[.string s2] wx fun e w'=>e=.returned (.tuple #[.agg #[.bool q,.string u,.string B],.bool true])/\Below wx.heap.size wx w')
  (c1:∀ wx,Below w.heap.size w wx->Calls prog 189 #[.string A,.string B] wx (StrZ a wx))
  (c2:∀ wx,Below w.heap.size w wx->Calls prog 189 #[.string u,.string D] wx (StrZ b wx))
  (c3:∀ wx,Below w.heap.size w wx->Calls prog 187 #[.bool p,.string a,.bool (!q),.string b] wx fun e w'=>e=.returned (.tuple #[.bool s,.string c])/\Below wx.heap.size wx w') :
  Calls prog 195 #[.string s1,.string s2] w (IntEnd v w):=by
 have Y:=qh c0;clear c0;have N:=qh H;clear H;have C1:=qh c1;clear c1;have C2:=qh c2;clear c2;have T:=qh c3;clear c3;have Q:=qh E;clear E
 go_enter func195,ntmps195
 go_wp2_with fail
 refine(Y.out _ blr).mono ?_;rintro e k ⟨rfl,l⟩;have X:=qh l;have C:=qh (l.alloc l.size (.cells #[.bool p,.string A,.string D] 189));clear l
 go_wp2_with fail
 refine(N.out _ C.out).mono ?_;rintro e m ⟨rfl,o⟩;have G:=qh o;have g:=qh ((z0a C.out o).alloc (Nat.le_trans C.out.size o.size) (.cells #[.bool q,.string u,.string B] 189));clear o
 go_wp2_with fail
 obtain⟨W,F⟩:=exq (m.alloc (.cells #[.bool q,.string u,.string B] 189));have j:∀ d,Below W.heap.size W d->(Below W.heap.size W d /\
  d.cell? ⟨k.heap.size,0,none⟩=some (.bool p)/\d.cell? ⟨k.heap.size,1,none⟩=some (.string A)/\d.cell? ⟨k.heap.size,2,none⟩=some (.string D) /\
  d.cell? ⟨m.heap.size,0,none⟩=some (.bool q)/\d.cell? ⟨m.heap.size,1,none⟩=some (.string u)/\d.cell? ⟨m.heap.size,2,none⟩=some (.string B)):=by
  intro d h;subst F;have U:=G.out.size;rw[World.size_alloc] at U;have I:∀ (i:Nat) (v:Value),(k.alloc (.cells #[.bool p,.string A,.string D] 189)).cell? ⟨k.heap.size,i,none⟩=some v->d.cell? ⟨k.heap.size,i,none⟩=some v:=by
   intro i v E;refine(h.cell (p:=⟨k.heap.size,i,none⟩) (by rw[World.size_alloc];show k.heap.size<_;omega)).trans ?_;rw[World.cell?_alloc_past (hn:=by omega)];exact(G.out.cell (p:=⟨k.heap.size,i,none⟩) (by rw[World.size_alloc];show k.heap.size<_;omega)).trans E
  have L:∀ (i:Nat) (v:Value),(m.alloc (.cells #[.bool q,.string u,.string B] 189)).cell? ⟨m.heap.size,i,none⟩=some v->d.cell? ⟨m.heap.size,i,none⟩=some v:=by
   intro i v E;exact(h.cell (p:=⟨m.heap.size,i,none⟩) (by rw[World.size_alloc];show m.heap.size<_;omega)).trans E
  exact⟨h,I 0 _ (by simp[go_sem]),I 1 _ (by simp[go_sem]),I 2 _ (by simp[go_sem]),L 0 _ (by simp[go_sem]),L 1 _ (by simp[go_sem]),L 2 _ (by simp[go_sem])⟩
 rw[<- F];rw[<- F] at g;have O:=qh j;clear j;have Z:=qh F;clear F;have S:Below W.heap.size W W.drew:=blr.drew
 go_region_held2 (fun d=>Below W.heap.size W d /\
  d.cell? ⟨k.heap.size,0,none⟩=some (.bool p)/\d.cell? ⟨k.heap.size,1,none⟩=some (.string A)/\d.cell? ⟨k.heap.size,2,none⟩=some (.string D) /\
  d.cell? ⟨m.heap.size,0,none⟩=some (.bool q)/\d.cell? ⟨m.heap.size,1,none⟩=some (.string u)/\d.cell? ⟨m.heap.size,2,none⟩=some (.string B))
  (first|exact O.out _ (by assumption)|exact O.out _ blr.drew)
  (first
   | (go_at_call_of 189 (Value.string A);refine(C1.out _ (z0a g.out (by assumption))).mono ?_;rintro e k ⟨rfl,l⟩;have R:=z0a (by assumption) l)
   | (go_at_call_of 189 (Value.string u);refine(C2.out _ (z0a g.out (by assumption))).mono ?_;rintro e m ⟨rfl,o⟩;have a1:=z0a (by assumption) o)
   | (go_at_call 188;refine(z1q _ _).mono ?_;rintro e w' ⟨rfl,rfl⟩)
   | (go_at_call 187;refine(T.out _ (z0a g.out (by assumption))).mono ?_;rintro e w3 ⟨rfl,J⟩;have K:=z0a (by assumption) J))
 have z:=qh K
 rcases Q.out with ⟨P,rfl⟩|⟨P,rfl,rfl⟩|⟨P,rfl,rfl⟩
 ·go_wp2;go_ret;exact⟨rfl,z0a g.out z.out⟩
 ·go_wp2;go_ret;exact⟨rfl,z0a g.out z.out⟩
 go_wp2;go_ret;exact⟨rfl,z0a g.out z.out⟩
theorem x2d (n:Nat):((str (dec n)).toList==[48])=decide (n=0):=by
 rw[str_eq,decide_eq_decide];exact⟨fun h=>z7p (h.trans z5e.symm),fun h=>by rw[h,z5e]⟩
theorem y7r (a b:ByteArray) (w:World) (E:a.size<=9223372036854775807) (hb:b.size<=9223372036854775807) (D:Tab w) :
  Calls prog 195 #[.string a,.string b] w (IntEnd (y4v a b) w):=by
 have m:∀ c,Below w.heap.size w c->Tab c:=fun c h=>D.below h nlr;have c1:=fun c (h:Below w.heap.size w c)=>z7q a c E (m c h);have c2:=fun c (h:Below w.heap.size w c)=>z7q b c hb (m c h);cases l:prs a with
 | none =>
  have p:y4v a b=0:=by unfold y4v;rw[l]
  rw[p];simp only[l,Option.isSome,prsV] at c1;generalize (prs b).isSome=o at c2;obtain⟨r,x,y,G⟩:=y6z (prs b);rw[G] at c2;have B:=qh c1;clear c1;have C:=qh c2;clear c2 p l G D E hb m;unfold NoNum nvS at B
  go_enter func195,ntmps195
  go_wp2_with fail
  refine(B.out _ blr).mono ?_;rintro e L ⟨rfl,d⟩;have g:=qh (d.alloc d.size (.cells #[.bool false,.string ⟨#[]⟩,.string ⟨#[]⟩] 189));clear d
  go_wp2_with fail
  refine(C.out _ g.out).mono ?_;rintro e H ⟨rfl,j⟩;have i:=qh (z0a g.out j);clear j;go_wp2;go_ret;exact⟨rfl,i.out.alloc i.out.size _⟩
 | some x =>
  simp only[l,Option.isSome,prsV] at c1;cases A:prs b with
  | none =>
   have p:y4v a b=0:=by unfold y4v;rw[l,A]
   rw[p];simp only[A,Option.isSome,prsV] at c2;have B:=qh c1;clear c1;have C:=qh c2;clear c2 p l A D E hb m;unfold NoNum nvS at C;unfold nv nvS at B
   go_enter func195,ntmps195
   go_wp2_with fail
   refine(B.out _ blr).mono ?_;rintro e L ⟨rfl,d⟩;have g:=qh (d.alloc d.size (.cells #[.bool (negQ x),.string (str (dec x.num.natAbs)),.string (str (dec x.den))] 189));clear d
   go_wp2_with fail
   refine(C.out _ g.out).mono ?_;rintro e H ⟨rfl,j⟩;have i:=qh (z0a g.out j);clear j;go_wp2;go_ret;exact⟨rfl,i.out.alloc i.out.size _⟩
  | some y =>
   have z:=(z2w l).2;have u:=(z2w A).2;have p:y4v a b=cmpQ x y:=by unfold y4v;rw[l,A]
   rw[p];simp only[A,Option.isSome,prsV] at c2;have J:fits (x.num.natAbs*y.den):=z3e z.1 u.2;have K:fits (y.num.natAbs*x.den):=z3e u.1 z.2;have I:fits (x.num.natAbs*y.den+y.num.natAbs*x.den):=y8m z.1 u.2 u.1 z.2;refine v9s (negQ x) (negQ y) _ _ _ _ (str (dec (x.num.natAbs*y.den))) (str (dec (y.num.natAbs*x.den))) (str (dec (sumF (negQ x) (x.num.natAbs*y.den) (!negQ y) (y.num.natAbs*x.den)).2)) (sumF (negQ x) (x.num.natAbs*y.den) (!negQ y) (y.num.natAbs*x.den)).1 (cmpQ x y) a b w ?_ c1 c2
    (fun c h=>z4x _ _ c (z6j z) (z3w u) J (m c h)) (fun c h=>z4x _ _ c (z6j u) (z3w z) K (m c h))
    (fun c h=>y1f (negQ x) (!negQ y) _ _ c I (m c h))
   rw[u4j x y,x2d];generalize sumF (negQ x) (x.num.natAbs*y.den) (!negQ y) (y.num.natAbs*x.den)=r;obtain⟨s,k⟩:=r;by_cases F:k=0
   ·left;simp[F]
   right;cases s<;>simp[F]
end
section
open Go.RowKit
abbrev fv (g:FuncId):Value:=.func (.func g) #[] #[]
def ring0:Array Value:=#[.string ⟨#[]⟩,.string ⟨#[]⟩,.bool false,.nilFunc,.nilFunc,.nilFunc,.nilFunc,.nilFunc]
def ring1:Array Value:=#[.string ⟨#[105,110,102]⟩,.string ⟨#[48]⟩,.bool true,fv 157,fv 158,fv 159,fv 160,fv 160]
def ring2:Array Value:=#[.string ⟨#[48]⟩,.string ⟨#[49]⟩,.bool false,fv 161,fv 162,fv 163,fv 164,fv 165]
def ring3:Array Value:=#[.string ⟨#[48]⟩,.string ⟨#[49]⟩,.bool false,fv 157,fv 162,fv 166,fv 164,fv 165]
def z7j:Array Value:=#[.string ⟨#[]⟩,.string ⟨#[]⟩,.bool false,.nilFunc,.nilFunc,.nilFunc,.nilFunc,.nilFunc,
 .string ⟨#[105,110,102]⟩,.string ⟨#[48]⟩,.bool true,fv 157,fv 158,fv 159,fv 160,fv 160,
 .string ⟨#[48]⟩,.string ⟨#[49]⟩,.bool false,fv 161,fv 162,fv 163,fv 164,fv 165,
 .string ⟨#[48]⟩,.string ⟨#[49]⟩,.bool false,fv 157,fv 162,fv 166,fv 164,fv 165]
theorem z4y {P:Program} {g:Array Oper} {d:List Oper} {i:Oper} {a:Act} {w:World} {Q:Exit->Act->World->Prop} (j:i.guard=none) (t:TypeId) (x y:Operand) (o:i.op=.store t x y)
  (c c':Array Value) (p:a.eval x=.pointer (some ⟨w.heap.size,0,none⟩)) (k:a.eval y=.agg c') (hi:(P.info? t).map (·.size)=some c'.size) (s:c.size=c'.size) (m:c'.all (·.oneCell')=true)
  (h:wpList P g Q d (a.put i.dst undef) (w.alloc (.cells c' t))):wpList P g Q (i::d) a (w.alloc (.cells c t)) :=
 wpList_plain j fun _ l=>by
  unfold Oper.wp execOp;simp only[o,p,k,Instr.storeAt,Instr.sureAddr,Sem.run_bind,Sem.run_pure,Result.andThen_ok,run_storeVar_new w t c c' hi s m];exact l _ _ h
theorem z7w {fn:Func} {p:Tmp} {d:TypeId} (h:fn.results=#[.cell p d]) (c:Array Value) (P:Program) (w:World) :
  (results fn c).run P w=((asAddr (c.getD p undef)).run P w).andThen fun a w₁=>(loadVar d a).run P w₁:=by
 simp only[results,h];simp[Sem.run_bind,Result.andThen]
theorem y3f (w:World):Calls prog 134 #[] w fun e w'=>e=.returned (.agg z7j)/\Below w.heap.size w w':=by
 have hi:(prog.info? 150).map (·.size)=some z7j.size:=by kernel_rfl
 have c:z7j.all (·.oneCell')=true:=by decide +kernel
 have d:=qh hi;clear hi;have g:=qh c;clear c
 go_enter func134,ntmps134
 go_wp2_with (refine z4y rfl 150 (.tmp 0) (.tmp 4) rfl _ z7j rfl rfl d.out rfl g.out ?_)
 refine bodyPost_ret (v:=.agg z7j) ?_ rfl ⟨rfl,blr.alloc nlr _⟩;rw[z7w rfl];exact run_loadVar_new w 150 z7j 4 123 underlying150 d.out
theorem there8 {w g:World} {c:Array Value} {t:TypeId} (k:c.size=8) (h:Below (w.alloc (.cells c t)).heap.size (w.alloc (.cells c t)) g):g.there w.heap.size 0 8:=by
 intro j i;have d:w.heap.size<(w.alloc (.cells c t)).heap.size:=by simp
 have e:=h.cell (p:=⟨w.heap.size,0+j,none⟩) d;have f:=h.frozen (p:=⟨w.heap.size,0+j,none⟩) d;rw[e,f]
 constructor
 ·rw[cell_of_row _ _ (0+j) c t (0,0) (heap_alloc_last w _)];simp[k,i]
 exact World.frozen?_alloc_new w c t _
def OfEnd (r:Array Value) (b:Bool) (w:World) (e:Ending) (w':World):Prop:=e=.returned (.tuple #[.agg r,.bool b])/\Below w.heap.size w w'
theorem z7h {fn:Func} {p u:Tmp} (h:fn.results=#[.cell p 123,.tmp u]) (c:Array Value) (W:World) (b:Nat) (r:List Value) (v:Value) (i:c.getD p undef=.pointer (some ⟨b,0,none⟩)) (d:c.getD u undef=v)
  (g:r.length=8) (j:W.rangeAt b 0 r):(results fn c).run prog W=.ok (.tuple #[.agg r.toArray,v]) W:=by
 rw[results_cell_tmp h,i,d];have hi:(prog.info? 123).map (·.size)=some r.length:=by rw[g];kernel_rfl
 have:=run_loadVar_mid (P:=prog) W b 0 123 r _ j underlying123 rfl hi;show ((loadVar 123 ⟨b,0,none⟩).run prog W).andThen _=_;rw[this];rfl
theorem y9h (w:World) (c:Array Value) (t:TypeId):(w.alloc (.cells c t)).rangeAt w.heap.size 0 c.toList:=by
 intro j v d;rw[cell_of_row _ _ (0+j) c t (0,0) (heap_alloc_last w _)];rw[Nat.zero_add];rw[Array.getElem?_toList] at d;exact d
theorem x1t (k:Int) (w:World) (c:k<1\/3<k):Calls prog 97 #[.int .i64 k] w (OfEnd ring0 false w):=by
 have hi:(prog.info? 123).map (·.size)=some ring0.size:=by kernel_rfl
 have g:ring0.all (·.oneCell')=true:=by decide +kernel
 have h:=qh hi;clear hi;have d:=qh g;clear g
 rcases c with c|c
 ·go_enter func97,ntmps97
  go_wp2_with (refine z4y rfl 123 (.tmp 2) (.tmp 10) rfl _ ring0 rfl rfl h.out rfl d.out ?_)
  exact bodyPost_ret (z7h rfl _ _ w.heap.size ring0.toList (.bool false) rfl rfl rfl (y9h w ring0 _)) rfl ⟨rfl,blr.alloc nlr _⟩
 have i:decide (k<1)=false:=by rw[decide_eq_false_iff_not];omega
 go_enter func97,ntmps97
 go_wp2_with (refine z4y rfl 123 (.tmp 2) (.tmp 10) rfl _ ring0 rfl rfl h.out rfl d.out ?_)
 exact bodyPost_ret (z7h rfl _ _ w.heap.size ring0.toList (.bool false) rfl rfl rfl (y9h w ring0 _)) rfl ⟨rfl,blr.alloc nlr _⟩
end
section
open Go.RowKit
theorem z7y {B b:Nat} {a:World}:∀ {w:World},Below B a w->B<=b->∀ (vs:List Value) (o:Nat),Below B a (w.setCells b o vs)
 | _,h,_,[],_=>h
 | _,h,hB,v::vs,o=>z7y (h.setCell (p:=⟨b,o,none⟩) hB v) hB vs (o+1)
theorem x8v (k:Int) (o R:Array Value) (w:World) (C:1<=k) (D:k<=3) (d:R.size=8) (s:R.all (·.oneCell')=true) (u:∀ wx,Calls prog 134 #[] wx fun e w'=>e=.returned (.agg o)/\Below wx.heap.size wx w')
  (I:∀ w,(Instr.index 150 (.agg o) (.int .i64 k)).run prog w=.ok (.agg R) w):Calls prog 97 #[.int .i64 k] w (OfEnd R true w):=by
 have hi:(prog.info? 123).map (·.size)=some R.size:=by rw[d];kernel_rfl
 have E:=qh hi;clear hi;have G:=qh s;clear s;have H:=qh u;clear u;have p:=qh d;clear d;have B:decide (k<1)=false:=by rw[decide_eq_false_iff_not];omega
 have A:decide (3<k)=false:=by rw[decide_eq_false_iff_not];omega
 have h:Below w.heap.size w (w.alloc (.cells ring0 123)):=blr.alloc nlr _;have i:=qh h;clear h
 go_enter func97,ntmps97
 go_wp2_with fail
 refine(H.out _).mono ?_;rintro e F ⟨rfl,g⟩;have j:=qh g;clear g;have m:=there8 rfl j.out;rw[<- p.out] at m;have z:=qh m;clear m
 go_wp2_with (refine wpList_store_mid rfl 123 (.tmp 2) (.tmp 13) rfl w.heap.size 0 R rfl rfl z.out E.out G.out ?_)
 have l:=World.rangeAt_setCells_same F w.heap.size 0 R.toList (by rw[Array.length_toList];exact z.out);have c:=z7h (fn:=f97) rfl #[.int .i64 k,undef,.pointer (some ⟨w.heap.size,0,none⟩),.bool true,.int .i64 k,.bool false,.bool false,.int .i64 k,.bool false,.bool false,undef,.agg o,.int .i64 k,.agg R] _ w.heap.size R.toList (.bool true) rfl rfl (by rw[Array.length_toList];exact p.out) l;rw[Array.toArray_toList] at c;exact bodyPost_ret c rfl ⟨rfl,z7y (i.out.trans (j.out.mono i.out.size)) nlr _ _⟩
theorem v8y (w:World):(Instr.index 150 (.agg z7j) (.int .i64 1)).run prog w=.ok (.agg ring1) w:=by kernel_rfl
theorem of_1 (w:World):Calls prog 97 #[.int .i64 1] w (OfEnd ring1 true w) :=
 x8v 1 z7j ring1 w (by decide) (by decide) rfl (by decide +kernel) y3f v8y
theorem u1i (w:World):(Instr.index 150 (.agg z7j) (.int .i64 2)).run prog w=.ok (.agg ring2) w:=by kernel_rfl
theorem of_2 (w:World):Calls prog 97 #[.int .i64 2] w (OfEnd ring2 true w) :=
 x8v 2 z7j ring2 w (by decide) (by decide) rfl (by decide +kernel) y3f u1i
theorem u0e (w:World):(Instr.index 150 (.agg z7j) (.int .i64 3)).run prog w=.ok (.agg ring3) w:=by kernel_rfl
theorem of_3 (w:World):Calls prog 97 #[.int .i64 3] w (OfEnd ring3 true w) :=
 x8v 3 z7j ring3 w (by decide) (by decide) rfl (by decide +kernel) y3f u0e
end
section
open Go.RowKit
theorem z2v:infS.toList=[105,110,102]:=by rw[Lib.toList_data];rfl
theorem z5u:lowS.toList=[45,105,110,102]:=by rw[Lib.toList_data];rfl
theorem z8x {q:Rat} (h:fitQ q):((txt q).toList==[105,110,102])=false:=by
 refine z4i (l:=[105,110,102]) (fun e=>?_);have:=z2k h;rw[e] at this;have c:=y8d;unfold infS at c;rw[show str [105,110,102]=(⟨#[105,110,102]⟩:ByteArray) from rfl,c] at this;simp at this
theorem y6j {q:Rat} (h:fitQ q):((txt q).toList==[45,105,110,102])=false:=by
 refine z4i (l:=[45,105,110,102]) (fun e=>?_);have:=z2k h;rw[e] at this;have c:=y4a;unfold lowS at c;rw[show str [45,105,110,102]=(⟨#[45,105,110,102]⟩:ByteArray) from rfl,c] at this;simp at this
theorem v0c {x y:Rat} (d:fitQ x) (c:fitQ y):y4v (txt x) (txt y)=cmpQ x y:=by unfold y4v;rw[z2k d,z2k c]
theorem z4r (v u:V) (w:World) (A:fitV v) (o:fitV u) (T:Tab w):Calls prog 184 #[.string (vtxt v),.string (vtxt u)] w (IntEnd (cmpV v u) w):=by
 have G:∀ (a b:ByteArray) (z:Int) (i:z=0/\a=b\/a≠b) (c:a≠b->a≠infS->a≠lowS->b≠infS->b≠lowS->Calls prog 195 #[.string a,.string b] w (IntEnd z w))
   (p:a≠b->((a=lowS\/b=infS)/\z=-1)\/(a≠lowS/\b≠infS/\(b=lowS\/a=infS)/\z=1)\/(a≠lowS/\b≠infS/\b≠lowS/\a≠infS)),
   Calls prog 184 #[.string a,.string b] w (IntEnd z w):=by
  intro a b z i c p
  rcases i with ⟨rfl,rfl⟩|i
  ·clear c p
   go_enter func184,ntmps184
   go_wp2;go_ret;exact⟨rfl,blr⟩
  have U:(a.toList==b.toList)=false:=by rw[beq_eq_false_iff_ne];exact x8u i
  have Q:∀ s:ByteArray,s≠lowS->(s.toList==[45,105,110,102])=false:=fun s h=>z4i (l:=[45,105,110,102]) h;have L:∀ s:ByteArray,s≠infS->(s.toList==[105,110,102])=false:=fun s h=>z4i (l:=[105,110,102]) h;have D:=qh Q;clear Q;have H:=qh L;clear L
  rcases p i with ⟨d,rfl⟩|⟨d,m,k,rfl⟩|⟨d,m,k,B⟩
  ·clear c p;by_cases j:a=lowS
   ·have F:(a.toList==[45,105,110,102])=true:=by rw[j,z5u];rfl
    clear i d j
    go_enter func184,ntmps184
    go_wp2;go_ret;exact⟨rfl,blr⟩
   have F:=D.out a j;have R:(b.toList==[105,110,102])=true:=by rw[d.resolve_left j,z2v];rfl
   clear i d j
   go_enter func184,ntmps184
   go_wp2;go_ret;exact⟨rfl,blr⟩
  ·clear c p;have F:=D.out a d;have R:=H.out b m;by_cases g:b=lowS
   ·have N:(b.toList==[45,105,110,102])=true:=by rw[g,z5u];rfl
    cases P:(a.toList==[105,110,102])
    all_goals
     clear i d m k g
     go_enter func184,ntmps184
     go_wp2;go_ret;exact⟨rfl,blr⟩
   have N:=D.out b g;have P:(a.toList==[105,110,102])=true:=by rw[k.resolve_left g,z2v];rfl
   clear i d m k g
   go_enter func184,ntmps184
   go_wp2;go_ret;exact⟨rfl,blr⟩
  have F:=D.out a d;have R:=H.out b m;have N:=D.out b k;have P:=H.out a B;have C:=qh (c i B d m k);clear c p i d m k B
  go_enter func184,ntmps184
  go_wp2_with fail
  refine nxa C.out fun W S=>?_;go_wp2;go_ret;exact⟨rfl,S.out⟩
 refine G _ _ _ ?_ ?_ ?_
 ·by_cases h:v=u
  ·subst h;exact .inl ⟨(y5a v v).2 rfl,rfl⟩
  exact .inr (fun e=>h (x5c A o e))
 ·intro _ d m k B;cases v with
  | inf=>exact absurd rfl d
  | low=>exact absurd rfl m
  | fin x =>
   cases u with
   | inf=>exact absurd rfl k
   | low=>exact absurd rfl B
   | fin y =>
    have O:=y7r (txt x) (txt y) w (by have:=z2x A;omega) (by have:=z2x o;omega) T;rw[v0c A o] at O;exact O
 intro h;have E:infS≠lowS:=by decide
 have K:∀ q:Rat,fitQ q->txt q≠infS:=fun q J e=>by have:=z8x J;rw[e,z2v] at this;simp at this
 have I:∀ q:Rat,fitQ q->txt q≠lowS:=fun q J e=>by have:=y6j J;rw[e,z5u] at this;simp at this
 cases v with
 | inf =>
  cases u with
  | inf=>exact absurd rfl h
  | low=>exact .inr (.inl ⟨E,Ne.symm E,.inl rfl,rfl⟩)
  | fin y=>exact .inr (.inl ⟨E,K y o,.inr rfl,rfl⟩)
 | low =>
  cases u with
  | inf=>exact .inl ⟨.inl rfl,rfl⟩
  | low=>exact absurd rfl h
  | fin y=>exact .inl ⟨.inl rfl,rfl⟩
 | fin x =>
  cases u with
  | inf=>exact .inl ⟨.inr rfl,rfl⟩
  | low=>exact .inr (.inl ⟨I x A,Ne.symm E,.inl rfl,rfl⟩)
  | fin y=>exact .inr (.inr ⟨I x A,K y o,I y o,K x A⟩)
end
end Go.Proofs.YteappjogmnogcaaGreatDoor
