/- Parts of a proof: MP RatE RatC RatF RatG MS1. -/
import Derived.Test.YteappjogmnogcaaGreatDoorU03
import Derived.Test.YteappjogmnogcaaGreatDoorU00
import Derived.Laws.EntriesVeiled
import Derived.Deep.WholeRow
import Derived.Deep.MidRow
import Derived.Laws.ResultCell
namespace Go.Proofs.YteappjogmnogcaaGreatDoor
set_option maxRecDepth 100000
set_option linter.unusedSimpArgs false
set_option linter.unusedVariables false
set_option linter.unusedSectionVars false
set_option maxHeartbeats 16000000
open Go Tryz
section
open Go.RowKit
theorem z0u {fn:Func} {p u:Tmp} (h:fn.results=#[.cell p 189,.tmp u]) (c:Array Value) (W:World) (n:Nat) (r:Bool) (x y:ByteArray) (o:Bool)
  (i:c.getD p undef=.pointer (some ⟨n,0,none⟩)) (j:c.getD u undef=.bool o) (c0:W.cell? ⟨n,0,none⟩=some (.bool r)) (c1:W.cell? ⟨n,1,none⟩=some (.string x)) (c2:W.cell? ⟨n,2,none⟩=some (.string y)) :
  (results fn c).run prog W=.ok (.tuple #[.agg #[.bool r,.string x,.string y],.bool o]) W:=by
 have g:c[p]?.getD undef=.pointer (some ⟨n,0,none⟩):=by rw[<- i];simp
 have d:c[u]?.getD undef=.bool o:=by rw[<- j];simp
 simp only[results,h];simp[g,d,go_sem,c0,c1,c2]
theorem size49:(⟨#[49]⟩:ByteArray).size=1:=rfl
def NoNum:Value:=nvS false ⟨#[]⟩ ⟨#[]⟩
def okB (neg frac vn vd:Bool) (n d g:ByteArray):Bool:=vn&&vd&&decide (n.size<=400)&&decide (d.size<=400)&&!(neg&&(n.toList==[48]))&&!(frac&&(d.toList==[48]||d.toList==[49]))&&(g.toList==[49])
def PairQ (neg:Bool) (n d:ByteArray) (ok:Bool) (w:World) (e:Ending) (w':World):Prop:=e=.returned (.tuple #[if ok then nvS neg n d else NoNum,.bool ok])/\Below w.heap.size w w'
theorem x9p (s r n X d g:ByteArray) (neg D I J:Bool) (w:World)
  (F:d=if D then X else ⟨#[49]⟩) (hn:n.size<=9223372036854775807) (L:d.size<=9223372036854775807)
  (c1:∀ wx,Below w.heap.size w wx->Calls prog 210 #[.string s,.string ⟨#[45]⟩] wx fun e w'=>e=.returned (.tuple #[.string r,.bool neg])/\wx=w')
  (c2:∀ wx,Below w.heap.size w wx->Calls prog 211 #[.string r,.string ⟨#[47]⟩] wx fun e w'=>e=.returned (.tuple #[.string n,.string X,.bool D])/\Below wx.heap.size wx w')
  (c3:∀ wx,Calls prog 204 #[.string n] wx fun e w'=>e=.returned (.bool I)/\wx=w')
  (c4:∀ wx,Calls prog 204 #[.string d] wx fun e w'=>e=.returned (.bool J)/\wx=w')
  (c5:I=true->J=true->∀ wx,Below w.heap.size w wx->Calls prog 208 #[.string n,.string d] wx (StrZ g wx)) :
  Calls prog 191 #[.string s] w (PairQ neg n d (okB neg D I J n d g) w):=by
 have C1:=qh c1;clear c1;have Z:=qh c2;clear c2;have Y:=qh c3;clear c3;have W:=qh c4;clear c4;have N:=qh c5;clear c5;have K:Below w.heap.size w (w.alloc (.cells #[.bool false,.string ⟨#[]⟩,.string ⟨#[]⟩] 189)):=blr.alloc nlr _;have E:=qh K;clear K;have HN:=qh hn;clear hn;have U:=qh L;clear L;have O:=qh F;clear F;unfold PairQ NoNum nvS;obtain⟨z,G⟩:∃ b,b=okB neg D I J n d g:=⟨_,rfl⟩;rw[<- G];have i:=qh G;clear G
 go_enter func191,ntmps191
 go_wp2_with fail
 refine(C1.out _ E.out).mono ?_;rintro e w1 ⟨rfl,rfl⟩
 go_wp2_with fail
 refine(Z.out _ E.out).mono ?_;rintro e w2 ⟨rfl,H⟩;have h:=qh H;have c:=qh (E.out.trans (H.mono E.out.size));clear H;cases D
 ·have F:=O.out;simp only[Bool.false_eq_true,if_false] at F;subst F;clear U O
  go_wp2_with fail
  refine(Y.out _).mono ?_;rintro e w' ⟨rfl,rfl⟩;cases I
  ·-- no numerator
   have hf:z=false:=by rw[i.out];first|(simp[okB, *];done)|simp[okB, *,size49]
   subst hf;obtain⟨j,l,k,A,B,C,m⟩:=res3 h.out
   go_wp2_with fail
   obtain⟨s0,s1,s2⟩:=set3 (a':=.bool false) (b':=.string ⟨#[]⟩) (c':=.string ⟨#[]⟩) j l k;exact bodyPost_ret (z0u rfl _ _ w.heap.size false ⟨#[]⟩ ⟨#[]⟩ false rfl rfl s0 s1 s2) rfl ⟨rfl,((c.out.setCell nlr _).setCell nlr _).setCell nlr _⟩
  go_wp2_with fail
  refine(W.out _).mono ?_;rintro e w' ⟨rfl,rfl⟩;cases J
  ·-- no denominator
   have hf:z=false:=by rw[i.out];first|(simp[okB, *];done)|simp[okB, *,size49]
   subst hf;obtain⟨j,l,k,A,B,C,m⟩:=res3 h.out
   go_wp2_with fail
   obtain⟨s0,s1,s2⟩:=set3 (a':=.bool false) (b':=.string ⟨#[]⟩) (c':=.string ⟨#[]⟩) j l k;exact bodyPost_ret (z0u rfl _ _ w.heap.size false ⟨#[]⟩ ⟨#[]⟩ false rfl rfl s0 s1 s2) rfl ⟨rfl,((c.out.setCell nlr _).setCell nlr _).setCell nlr _⟩
  by_cases h1:n.size<=400
  ·have T:(n.size:Int)<=400:=by omega
   cases neg
   ·-- no sign
    go_wp2_with fail
    refine(N.out (by trivial) (by trivial) _ c.out).mono ?_;rintro e R ⟨rfl,o⟩;have p:=qh (h.out.trans (o.mono h.out.size));have u:=qh (c.out.trans (o.mono c.out.size));clear o;cases Q:(g.toList==[49])
    ·-- no
     have hf:z=false:=by rw[i.out];first|(simp[okB, *];done)|simp[okB, *,size49]
     subst hf;obtain⟨j,l,k,A,B,C,m⟩:=res3 p.out
     go_wp2_with fail
     obtain⟨s0,s1,s2⟩:=set3 (a':=.bool false) (b':=.string ⟨#[]⟩) (c':=.string ⟨#[]⟩) j l k;exact bodyPost_ret (z0u rfl _ _ w.heap.size false ⟨#[]⟩ ⟨#[]⟩ false rfl rfl s0 s1 s2) rfl ⟨rfl,((u.out.setCell nlr _).setCell nlr _).setCell nlr _⟩
    have hf:z=true:=by rw[i.out];first|(simp[okB, *];done)|simp[okB, *,size49]
    subst hf;obtain⟨j,l,k,A,B,C,m⟩:=res3 p.out
    go_wp2_with fail
    obtain⟨s0,s1,s2⟩:=set3 (a':=.bool false) (b':=.string n) (c':=.string ⟨#[49]⟩) j l k;exact bodyPost_ret (z0u rfl _ _ w.heap.size false n ⟨#[49]⟩ true rfl rfl s0 s1 s2) rfl ⟨rfl,((u.out.setCell nlr _).setCell nlr _).setCell nlr _⟩
   cases hz:(n.toList==[48])
   ·-- a sign
    go_wp2_with fail
    refine(N.out (by trivial) (by trivial) _ c.out).mono ?_;rintro e R ⟨rfl,o⟩;have p:=qh (h.out.trans (o.mono h.out.size));have u:=qh (c.out.trans (o.mono c.out.size));clear o;cases Q:(g.toList==[49])
    ·-- no
     have hf:z=false:=by rw[i.out];first|(simp[okB, *];done)|simp[okB, *,size49]
     subst hf;obtain⟨j,l,k,A,B,C,m⟩:=res3 p.out
     go_wp2_with fail
     obtain⟨s0,s1,s2⟩:=set3 (a':=.bool false) (b':=.string ⟨#[]⟩) (c':=.string ⟨#[]⟩) j l k;exact bodyPost_ret (z0u rfl _ _ w.heap.size false ⟨#[]⟩ ⟨#[]⟩ false rfl rfl s0 s1 s2) rfl ⟨rfl,((u.out.setCell nlr _).setCell nlr _).setCell nlr _⟩
    have hf:z=true:=by rw[i.out];first|(simp[okB, *];done)|simp[okB, *,size49]
    subst hf;obtain⟨j,l,k,A,B,C,m⟩:=res3 p.out
    go_wp2_with fail
    obtain⟨s0,s1,s2⟩:=set3 (a':=.bool true) (b':=.string n) (c':=.string ⟨#[49]⟩) j l k;exact bodyPost_ret (z0u rfl _ _ w.heap.size true n ⟨#[49]⟩ true rfl rfl s0 s1 s2) rfl ⟨rfl,((u.out.setCell nlr _).setCell nlr _).setCell nlr _⟩
   have hf:z=false:=by rw[i.out];first|(simp[okB, *];done)|simp[okB, *,size49]
   subst hf;obtain⟨j,l,k,A,B,C,m⟩:=res3 h.out
   go_wp2_with fail
   obtain⟨s0,s1,s2⟩:=set3 (a':=.bool false) (b':=.string ⟨#[]⟩) (c':=.string ⟨#[]⟩) j l k;exact bodyPost_ret (z0u rfl _ _ w.heap.size false ⟨#[]⟩ ⟨#[]⟩ false rfl rfl s0 s1 s2) rfl ⟨rfl,((c.out.setCell nlr _).setCell nlr _).setCell nlr _⟩
  have T:(400:Int)<(n.size:Int):=by omega
  have hf:z=false:=by rw[i.out];first|(simp[okB, *];done)|simp[okB, *,size49]
  subst hf;obtain⟨j,l,k,A,B,C,m⟩:=res3 h.out
  go_wp2_with fail
  obtain⟨s0,s1,s2⟩:=set3 (a':=.bool false) (b':=.string ⟨#[]⟩) (c':=.string ⟨#[]⟩) j l k;exact bodyPost_ret (z0u rfl _ _ w.heap.size false ⟨#[]⟩ ⟨#[]⟩ false rfl rfl s0 s1 s2) rfl ⟨rfl,((c.out.setCell nlr _).setCell nlr _).setCell nlr _⟩
 have F:=O.out;simp only[if_true] at F;subst F;clear O
 go_wp2_with fail
 refine(Y.out _).mono ?_;rintro e w' ⟨rfl,rfl⟩;cases I
 ·-- no numerator
  have hf:z=false:=by rw[i.out];first|(simp[okB, *];done)|simp[okB, *,size49]
  subst hf;obtain⟨j,l,k,A,B,C,m⟩:=res3 h.out
  go_wp2_with fail
  obtain⟨s0,s1,s2⟩:=set3 (a':=.bool false) (b':=.string ⟨#[]⟩) (c':=.string ⟨#[]⟩) j l k;exact bodyPost_ret (z0u rfl _ _ w.heap.size false ⟨#[]⟩ ⟨#[]⟩ false rfl rfl s0 s1 s2) rfl ⟨rfl,((c.out.setCell nlr _).setCell nlr _).setCell nlr _⟩
 go_wp2_with fail
 refine(W.out _).mono ?_;rintro e w' ⟨rfl,rfl⟩;cases J
 ·-- no denominator
  have hf:z=false:=by rw[i.out];first|(simp[okB, *];done)|simp[okB, *,size49]
  subst hf;obtain⟨j,l,k,A,B,C,m⟩:=res3 h.out
  go_wp2_with fail
  obtain⟨s0,s1,s2⟩:=set3 (a':=.bool false) (b':=.string ⟨#[]⟩) (c':=.string ⟨#[]⟩) j l k;exact bodyPost_ret (z0u rfl _ _ w.heap.size false ⟨#[]⟩ ⟨#[]⟩ false rfl rfl s0 s1 s2) rfl ⟨rfl,((c.out.setCell nlr _).setCell nlr _).setCell nlr _⟩
 by_cases h1:n.size<=400
 ·have T:(n.size:Int)<=400:=by omega
  by_cases h2:d.size<=400
  ·have g2:(d.size:Int)<=400:=by omega
   cases neg
   ·-- no sign
    cases P:(d.toList==[48])
    ·cases S:(d.toList==[49])
     ·-- a denominator of its own
      go_wp2_with fail
      refine(N.out (by trivial) (by trivial) _ c.out).mono ?_;rintro e R ⟨rfl,o⟩;have p:=qh (h.out.trans (o.mono h.out.size));have u:=qh (c.out.trans (o.mono c.out.size));clear o;cases Q:(g.toList==[49])
      ·-- no
       have hf:z=false:=by rw[i.out];first|(simp[okB, *];done)|simp[okB, *,size49]
       subst hf;obtain⟨j,l,k,A,B,C,m⟩:=res3 p.out
       go_wp2_with fail
       obtain⟨s0,s1,s2⟩:=set3 (a':=.bool false) (b':=.string ⟨#[]⟩) (c':=.string ⟨#[]⟩) j l k;exact bodyPost_ret (z0u rfl _ _ w.heap.size false ⟨#[]⟩ ⟨#[]⟩ false rfl rfl s0 s1 s2) rfl ⟨rfl,((u.out.setCell nlr _).setCell nlr _).setCell nlr _⟩
      have hf:z=true:=by rw[i.out];first|(simp[okB, *];done)|simp[okB, *,size49]
      subst hf;obtain⟨j,l,k,A,B,C,m⟩:=res3 p.out
      go_wp2_with fail
      obtain⟨s0,s1,s2⟩:=set3 (a':=.bool false) (b':=.string n) (c':=.string d) j l k;exact bodyPost_ret (z0u rfl _ _ w.heap.size false n d true rfl rfl s0 s1 s2) rfl ⟨rfl,((u.out.setCell nlr _).setCell nlr _).setCell nlr _⟩
     have hf:z=false:=by rw[i.out];first|(simp[okB, *];done)|simp[okB, *,size49]
     subst hf;obtain⟨j,l,k,A,B,C,m⟩:=res3 h.out
     go_wp2_with fail
     obtain⟨s0,s1,s2⟩:=set3 (a':=.bool false) (b':=.string ⟨#[]⟩) (c':=.string ⟨#[]⟩) j l k;exact bodyPost_ret (z0u rfl _ _ w.heap.size false ⟨#[]⟩ ⟨#[]⟩ false rfl rfl s0 s1 s2) rfl ⟨rfl,((c.out.setCell nlr _).setCell nlr _).setCell nlr _⟩
    have hf:z=false:=by rw[i.out];first|(simp[okB, *];done)|simp[okB, *,size49]
    subst hf;obtain⟨j,l,k,A,B,C,m⟩:=res3 h.out
    go_wp2_with fail
    obtain⟨s0,s1,s2⟩:=set3 (a':=.bool false) (b':=.string ⟨#[]⟩) (c':=.string ⟨#[]⟩) j l k;exact bodyPost_ret (z0u rfl _ _ w.heap.size false ⟨#[]⟩ ⟨#[]⟩ false rfl rfl s0 s1 s2) rfl ⟨rfl,((c.out.setCell nlr _).setCell nlr _).setCell nlr _⟩
   cases hz:(n.toList==[48])
   ·-- a sign
    cases P:(d.toList==[48])
    ·cases S:(d.toList==[49])
     ·-- a denominator of its own
      go_wp2_with fail
      refine(N.out (by trivial) (by trivial) _ c.out).mono ?_;rintro e R ⟨rfl,o⟩;have p:=qh (h.out.trans (o.mono h.out.size));have u:=qh (c.out.trans (o.mono c.out.size));clear o;cases Q:(g.toList==[49])
      ·-- no
       have hf:z=false:=by rw[i.out];first|(simp[okB, *];done)|simp[okB, *,size49]
       subst hf;obtain⟨j,l,k,A,B,C,m⟩:=res3 p.out
       go_wp2_with fail
       obtain⟨s0,s1,s2⟩:=set3 (a':=.bool false) (b':=.string ⟨#[]⟩) (c':=.string ⟨#[]⟩) j l k;exact bodyPost_ret (z0u rfl _ _ w.heap.size false ⟨#[]⟩ ⟨#[]⟩ false rfl rfl s0 s1 s2) rfl ⟨rfl,((u.out.setCell nlr _).setCell nlr _).setCell nlr _⟩
      have hf:z=true:=by rw[i.out];first|(simp[okB, *];done)|simp[okB, *,size49]
      subst hf;obtain⟨j,l,k,A,B,C,m⟩:=res3 p.out
      go_wp2_with fail
      obtain⟨s0,s1,s2⟩:=set3 (a':=.bool true) (b':=.string n) (c':=.string d) j l k;exact bodyPost_ret (z0u rfl _ _ w.heap.size true n d true rfl rfl s0 s1 s2) rfl ⟨rfl,((u.out.setCell nlr _).setCell nlr _).setCell nlr _⟩
     have hf:z=false:=by rw[i.out];first|(simp[okB, *];done)|simp[okB, *,size49]
     subst hf;obtain⟨j,l,k,A,B,C,m⟩:=res3 h.out
     go_wp2_with fail
     obtain⟨s0,s1,s2⟩:=set3 (a':=.bool false) (b':=.string ⟨#[]⟩) (c':=.string ⟨#[]⟩) j l k;exact bodyPost_ret (z0u rfl _ _ w.heap.size false ⟨#[]⟩ ⟨#[]⟩ false rfl rfl s0 s1 s2) rfl ⟨rfl,((c.out.setCell nlr _).setCell nlr _).setCell nlr _⟩
    have hf:z=false:=by rw[i.out];first|(simp[okB, *];done)|simp[okB, *,size49]
    subst hf;obtain⟨j,l,k,A,B,C,m⟩:=res3 h.out
    go_wp2_with fail
    obtain⟨s0,s1,s2⟩:=set3 (a':=.bool false) (b':=.string ⟨#[]⟩) (c':=.string ⟨#[]⟩) j l k;exact bodyPost_ret (z0u rfl _ _ w.heap.size false ⟨#[]⟩ ⟨#[]⟩ false rfl rfl s0 s1 s2) rfl ⟨rfl,((c.out.setCell nlr _).setCell nlr _).setCell nlr _⟩
   have hf:z=false:=by rw[i.out];first|(simp[okB, *];done)|simp[okB, *,size49]
   subst hf;obtain⟨j,l,k,A,B,C,m⟩:=res3 h.out
   go_wp2_with fail
   obtain⟨s0,s1,s2⟩:=set3 (a':=.bool false) (b':=.string ⟨#[]⟩) (c':=.string ⟨#[]⟩) j l k;exact bodyPost_ret (z0u rfl _ _ w.heap.size false ⟨#[]⟩ ⟨#[]⟩ false rfl rfl s0 s1 s2) rfl ⟨rfl,((c.out.setCell nlr _).setCell nlr _).setCell nlr _⟩
  have g2:(400:Int)<(d.size:Int):=by omega
  have hf:z=false:=by rw[i.out];first|(simp[okB, *];done)|simp[okB, *,size49]
  subst hf;obtain⟨j,l,k,A,B,C,m⟩:=res3 h.out
  go_wp2_with fail
  obtain⟨s0,s1,s2⟩:=set3 (a':=.bool false) (b':=.string ⟨#[]⟩) (c':=.string ⟨#[]⟩) j l k;exact bodyPost_ret (z0u rfl _ _ w.heap.size false ⟨#[]⟩ ⟨#[]⟩ false rfl rfl s0 s1 s2) rfl ⟨rfl,((c.out.setCell nlr _).setCell nlr _).setCell nlr _⟩
 have T:(400:Int)<(n.size:Int):=by omega
 have hf:z=false:=by rw[i.out];first|(simp[okB, *];done)|simp[okB, *,size49]
 subst hf;obtain⟨j,l,k,A,B,C,m⟩:=res3 h.out
 go_wp2_with fail
 obtain⟨s0,s1,s2⟩:=set3 (a':=.bool false) (b':=.string ⟨#[]⟩) (c':=.string ⟨#[]⟩) j l k;exact bodyPost_ret (z0u rfl _ _ w.heap.size false ⟨#[]⟩ ⟨#[]⟩ false rfl rfl s0 s1 s2) rfl ⟨rfl,((c.out.setCell nlr _).setCell nlr _).setCell nlr _⟩
end
section
open Go.RowKit
theorem str_eq {l r:List UInt8}:((str l).toList==r)=decide (l=r):=by
 rw[Lib.toList_data];show (bts (str l)==r)=_;rw[z2q,Bool.eq_iff_iff];simp
def prsV (o:Option Rat):Value:=match o with|some q=>nv q|none=>NoNum
theorem y6u (o:Option Rat):∃ r x y,prsV o=.agg #[.bool r,.string x,.string y]:=by cases o<;>exact⟨_,_,_,rfl⟩
theorem z7t (s:ByteArray) (w:World) (J:s.size<=9223372036854775807) (D:Tab w) :
  Calls prog 191 #[.string s] w fun e w' =>
   e=.returned (.tuple #[prsV (prs s),.bool (prs s).isSome])/\Below w.heap.size w w':=by
 have i:(z0z (bts s)).length<=s.size:=by
  unfold z0z;split
  ·rw[List.length_tail,z1m];omega
  rw[z1m];omega
 have B:(upTo (z0z (bts s))).length<=s.size:=Nat.le_trans (List.takeWhile_sublist _).length_le i;have E:(z6i (z0z (bts s))).length<=s.size:=by
  unfold z6i;rw[List.length_tail];have:=(List.dropWhile_sublist (· != 47) (l:=z0z (bts s))).length_le;omega
 have C:∀ c,Below w.heap.size w c->Tab c:=fun c h=>D.below h nlr;have k:str (denL (z0z (bts s)))=if hasS (z0z (bts s)) then str (if hasS (z0z (bts s)) then z6i (z0z (bts s)) else []) else ⟨#[49]⟩:=by
  unfold denL;cases hasS (z0z (bts s))<;>rfl
 have g:(str (denL (z0z (bts s)))).size<=9223372036854775807:=by
  rw[z1g];unfold denL;split
  ·omega
  show 1<=_;omega
 have G:=x9p s (str (z0z (bts s))) (str (upTo (z0z (bts s)))) (str (if hasS (z0z (bts s)) then z6i (z0z (bts s)) else [])) (str (denL (z0z (bts s))))
  (str (dec (Nat.gcd (num (upTo (z0z (bts s)))) (num (denL (z0z (bts s))))))) (z6f (bts s)) (hasS (z0z (bts s))) (z1s (upTo (z0z (bts s)))) (z1s (denL (z0z (bts s)))) w
  k (by rw[z1g];omega) g (fun c _=>v5u s c)
  (fun c _=>by
   have:=u1q (str (z0z (bts s))) c (by rw[z1g];omega);rw[z2q] at this;exact this)
  (fun c=>by
   have:=z3t (str (upTo (z0z (bts s)))) c (by rw[z1g];unfold maxLen;omega);unfold vld at this;rw[z2q] at this;exact this)
  (fun c=>by
   have:=z3t (str (denL (z0z (bts s)))) c (by unfold maxLen;omega);unfold vld at this;rw[z2q] at this;exact this)
  (fun p u c h=>by
   have o:=z9p p;have z:=z9p u;have H:fits (num (upTo (z0z (bts s)))):=by unfold fits;rw[o];exact(z4m p).2.1
   have I:fits (num (denL (z0z (bts s)))):=by unfold fits;rw[z];exact(z4m u).2.1
   have:=x8u _ _ c H I (C c h);rw[o,z] at this;exact this)
 refine G.mono ?_;rintro e w' ⟨rfl,hb⟩;refine⟨?_,hb⟩;have m:okB (z6f (bts s)) (hasS (z0z (bts s))) (z1s (upTo (z0z (bts s)))) (z1s (denL (z0z (bts s)))) (str (upTo (z0z (bts s)))) (str (denL (z0z (bts s)))) (str (dec (Nat.gcd (num (upTo (z0z (bts s)))) (num (denL (z0z (bts s)))))))
   = okP (z6f (bts s)) (upTo (z0z (bts s))) (denL (z0z (bts s))) (hasS (z0z (bts s))):=by
  unfold okB okP;rw[str_eq,str_eq,str_eq,str_eq,z1g,z1g];have F:∀ n,(decide (dec n=[49]))=decide (n=1):=fun n=>by
   rw[decide_eq_decide];exact⟨fun h=>z7k (h.trans z5k.symm),fun h=>by rw[h,z5k]⟩
  rw[F];have hb:∀ l r:List UInt8,(l==r)=decide (l=r):=fun l r=>by rw[Bool.eq_iff_iff];simp
  simp only[hb]
 rw[m];cases A:okP (z6f (bts s)) (upTo (z0z (bts s))) (denL (z0z (bts s))) (hasS (z0z (bts s)))
 ·have d:prs s=none:=by unfold prs prsL;rw[A];rfl
  rw[d];rfl
 have d:prs s=some (mkRat (sg (z6f (bts s)) (num (upTo (z0z (bts s))))) (num (denL (z0z (bts s))))):=by unfold prs prsL;rw[A];rfl
 have j:=(y9e d).2;rw[d];simp only[prsV,nv,j.sign,j.top,j.bot];rfl
end
section
open Go.RowKit
theorem x7x (g:FuncId) (p q:Bool) (z u A s:ByteArray) (E:Ending) (o k l:Nat) (w:World) (H:(∃ r x y,E=.returned (.agg #[.bool r,.string x,.string y]))\/E=PT)
  (J:∀ args w,(callFunc g args).run prog w=.ok (.enter g args) w) (T:o<w.heap.size) (N:k<w.heap.size) (S:l<w.heap.size)
  (c0:w.cell? ⟨o,0,none⟩=some (.func (.func g) #[] #[])) (O:w.cell? ⟨k,0,none⟩=some (.bool p)) (U:w.cell? ⟨k,1,none⟩=some (.string z)) (I:w.cell? ⟨k,2,none⟩=some (.string u))
  (W:w.cell? ⟨l,0,none⟩=some (.bool q)) (L:w.cell? ⟨l,1,none⟩=some (.string A)) (R:w.cell? ⟨l,2,none⟩=some (.string s))
  (j:∀ wx,Below w.heap.size w wx->Calls prog g #[nvS p z u,nvS q A s] wx fun e w'=>e=E/\Below wx.heap.size wx w') :
  Calls prog 200 #[.pointer (some ⟨o,0,none⟩),.pointer (some ⟨k,0,none⟩),.pointer (some ⟨l,0,none⟩)] w fun e w'=>e=E/\Below w.heap.size w w':=by
 unfold nvS at j;have i:=qh j;clear j;have m:Below w.heap.size w (w.alloc (.cells #[.bool false,.string ⟨#[]⟩,.string ⟨#[]⟩] 189)):=blr.alloc nlr _;have d:=qh m;clear m
 rcases H with ⟨r,x,y,rfl⟩|rfl
 ·go_enter func200,ntmps200
  go_wp2_with fail
  refine(i.out _ d.out).mono ?_;rintro e B ⟨rfl,c⟩;have h:=qh c;clear c;obtain⟨C,F,D,K,P,Q,G⟩:=res3 h.out;obtain⟨s0,s1,s2⟩:=set3 (a':=.bool r) (b':=.string x) (c':=.string y) C F D
  go_wp2_with fail
  exact bodyPost_ret (z3q rfl _ _ w.heap.size r x y rfl s0 s1 s2) rfl ⟨rfl,(((z0a d.out h.out).setCell nlr _).setCell nlr _).setCell nlr _⟩
 unfold PT at i ⊢
 go_enter func200,ntmps200
 go_wp2_with fail
 refine(i.out _ d.out).mono ?_;rintro e B ⟨rfl,c⟩;have h:=qh c;clear c
 go_wp2_with fail
 exact⟨rfl,rfl,z0a d.out h.out⟩
theorem qE (q:Rat):(∃ r x y,(if fitQ q then .returned (nv q) else PT)=Ending.returned (.agg #[.bool r,.string x,.string y]))\/(if fitQ q then .returned (nv q) else PT)=PT:=by
 by_cases h:fitQ q
 ·rw[if_pos h];exact .inl ⟨_,_,_,rfl⟩
 rw[if_neg h];exact .inr rfl
def okR (F:Rat->Rat->Rat) (a b:ByteArray):ByteArray × Nat:=match prs a,prs b with|some x,some y=>limR (F x y)|_,_=>(str [],1)
theorem z5q (g:FuncId) (F:Rat->Rat->Rat) (a b:ByteArray) (w:World) (W:a.size<=9223372036854775807) (hb:b.size<=9223372036854775807) (T:Tab w)
  (S:∀ args w,(callFunc g args).run prog w=.ok (.enter g args) w)
  (A:∀ x y,prs a=some x->prs b=some y->∀ wx,Below w.heap.size w wx->Calls prog g #[nv x,nv y] wx (QEnd (F x y) wx)) :
  Calls prog 185 #[.string a,.string b,.func (.func g) #[] #[]] w (PairEnd (okR F a b) w):=by
 have Y:∀ (fn:Fn) (first cap:Array Value) (w:World),(Instr.makeFunc fn first cap).run prog w=.ok (.func fn first cap) w:=fun _ _ _ _=>rfl
 have O:∀ wx,Below w.heap.size w wx->Tab wx:=fun wx h=>T.below h nlr;have c1:=fun wx (h:Below w.heap.size w wx)=>z7t a wx W (O wx h);have c2:=fun wx (h:Below w.heap.size w wx)=>z7t b wx hb (O wx h);have P:=qh S;clear S;have u:=qh A;clear A;clear O T W hb;have K:Below w.heap.size w (w.alloc (.cells #[.func (.func g) #[] #[]] 191)):=blr.alloc nlr _;have l:=qh K;clear K;cases C:prs a with
 | none =>
  have D:okR F a b=(str [],1):=by unfold okR;rw[C]
  rw[D];simp only[C,Option.isSome,prsV] at c1;clear D u C;have I:=qh c1;clear c1;generalize (prs b).isSome=o at c2;obtain⟨r,x,y,U⟩:=y6u (prs b);rw[U] at c2;clear U;have H:=qh c2;clear c2;unfold NoNum nvS at I
  go_enter func185,ntmps185
  go_wp2_with fail
  refine(I.out _ l.out).mono ?_;rintro e z ⟨rfl,c⟩;have j:=qh ((z0a l.out c).alloc (Nat.le_trans l.out.size c.size) (.cells #[.bool false,.string ⟨#[]⟩,.string ⟨#[]⟩] 189));clear c
  go_wp2_with fail
  refine(H.out _ j.out).mono ?_;rintro e B ⟨rfl,d⟩;have k:=qh (z0a j.out d);clear d;go_wp2;go_ret2;exact⟨rfl,k.out.alloc k.out.size _⟩
 | some x =>
  simp only[C,Option.isSome,prsV] at c1;have I:=qh c1;clear c1;cases J:prs b with
  | none =>
   have D:okR F a b=(str [],1):=by unfold okR;rw[C,J]
   rw[D];simp only[J,Option.isSome,prsV] at c2;clear D u C J;have H:=qh c2;clear c2;unfold nv nvS at I;unfold NoNum nvS at H
   go_enter func185,ntmps185
   go_wp2_with fail
   refine(I.out _ l.out).mono ?_;rintro e z ⟨rfl,c⟩;have j:=qh ((z0a l.out c).alloc (Nat.le_trans l.out.size c.size) (.cells #[.bool (negQ x),.string (str (dec x.num.natAbs)),.string (str (dec x.den))] 189));clear c
   go_wp2_with fail
   refine(H.out _ j.out).mono ?_;rintro e B ⟨rfl,d⟩;have k:=qh (z0a j.out d);clear d;go_wp2;go_ret2;exact⟨rfl,k.out.alloc k.out.size _⟩
  | some y =>
   have D:okR F a b=limR (F x y):=by unfold okR;rw[C,J]
   rw[D];simp only[J,Option.isSome,prsV] at c2;have A:=fun wx h=>u.out x y C J wx h;clear D u C J;have u:=qh A;clear A;have H:=qh c2;clear c2;unfold nv nvS at I H
   go_enter func185,ntmps185
   go_wp2_with fail
   refine(I.out _ l.out).mono ?_;rintro e z ⟨rfl,c⟩;have N:=qh c;have j:=qh ((z0a l.out c).alloc (Nat.le_trans l.out.size c.size) (.cells #[.bool (negQ x),.string (str (dec x.num.natAbs)),.string (str (dec x.den))] 189));clear c
   go_wp2_with fail
   refine(H.out _ j.out).mono ?_;rintro e B ⟨rfl,d⟩;have E:=qh d;have k:=qh ((z0a j.out d).alloc (Nat.le_trans j.out.size d.size) (.cells #[.bool (negQ y),.string (str (dec y.num.natAbs)),.string (str (dec y.den))] 189));clear d
   go_wp2_with fail
   refine(x2u _ (F x y) _ (fun wx h=>?_)).mono ?_
   ·have z0:=N.out.size;have z1:=E.out.size;have z2:=h.size;rw[World.size_alloc] at z0 z1 z2;have s0:w.heap.size<(w.alloc (.cells #[.func (.func g) #[] #[]] 191)).heap.size:=by rw[World.size_alloc];omega
    have s1:∀ o,z.heap.size<(z.alloc o).heap.size:=fun o=>by rw[World.size_alloc];omega
    have s2:∀ o,B.heap.size<(B.alloc o).heap.size:=fun o=>by rw[World.size_alloc];omega
    have G:wx.cell? ⟨w.heap.size,0,none⟩=some (.func (.func g) #[] #[]):=by
     refine(h.cell (p:=⟨w.heap.size,0,none⟩) (by rw[World.size_alloc];show w.heap.size<_;omega)).trans ?_;rw[World.cell?_alloc_past (hn:=by omega)];refine(E.out.cell (p:=⟨w.heap.size,0,none⟩) (by rw[World.size_alloc];show w.heap.size<_;omega)).trans ?_;rw[World.cell?_alloc_past (hn:=by omega)];refine(N.out.cell (p:=⟨w.heap.size,0,none⟩) s0).trans ?_;simp[go_sem]
    have s:∀ (i:Nat) (v:Value),(z.alloc (.cells #[.bool (negQ x),.string (str (dec x.num.natAbs)),.string (str (dec x.den))] 189)).cell? ⟨z.heap.size,i,none⟩=some v->wx.cell? ⟨z.heap.size,i,none⟩=some v:=by
     intro i v R;refine(h.cell (p:=⟨z.heap.size,i,none⟩) (by rw[World.size_alloc];show z.heap.size<_;omega)).trans ?_;rw[World.cell?_alloc_past (hn:=by omega)];exact(E.out.cell (p:=⟨z.heap.size,i,none⟩) (s1 _)).trans R
    have m:∀ (i:Nat) (v:Value),(B.alloc (.cells #[.bool (negQ y),.string (str (dec y.num.natAbs)),.string (str (dec y.den))] 189)).cell? ⟨B.heap.size,i,none⟩=some v->wx.cell? ⟨B.heap.size,i,none⟩=some v:=by
     intro i v R;exact(h.cell (p:=⟨B.heap.size,i,none⟩) (s2 _)).trans R
    exact x7x g _ _ _ _ _ _ _ w.heap.size z.heap.size B.heap.size wx (qE (F x y)) P.out (by omega) (by omega) (by omega) G
     (s 0 _ (by simp[go_sem])) (s 1 _ (by simp[go_sem])) (s 2 _ (by simp[go_sem])) (m 0 _ (by simp[go_sem])) (m 1 _ (by simp[go_sem])) (m 2 _ (by simp[go_sem]))
     (fun X Z=>u.out X ((z0a k.out h).trans (Z.mono (z0a k.out h).size)))
   rintro e w3 ⟨rfl,L⟩;have Q:=qh (z0a k.out L);clear L;generalize limR (F x y)=lr at *;obtain⟨ls,ln⟩:=lr;go_wp2;go_ret2;exact⟨rfl,Q.out⟩
end
section
open Go.RowKit
attribute [local go_sem ↓] Go.wp_at_zero Go.wp_at_succ
theorem v5f (p q:Bool) (h k i j a b c d:ByteArray) (s:Bool) (E:Ending) (w:World) (hE:(∃ r x y,E=.returned (.agg #[.bool r,.string x,.string y]))\/E=PT)
  (c1:∀ wx,Below w.heap.size w wx->Calls prog 189 #[.string h,.string j] wx (StrZ a wx))
  (c2:∀ wx,Below w.heap.size w wx->Calls prog 189 #[.string i,.string k] wx (StrZ b wx))
  (c3:∀ wx,Below w.heap.size w wx->Calls prog 187 #[.bool p,.string a,.bool q,.string b] wx fun e w'=>e=.returned (.tuple #[.bool s,.string c])/\Below wx.heap.size wx w')
  (c4:∀ wx,Below w.heap.size w wx->Calls prog 189 #[.string k,.string j] wx (StrZ d wx))
  (c5:∀ wx,Below w.heap.size w wx->Calls prog 190 #[.bool s,.string c,.string d] wx fun e w'=>e=E/\Below wx.heap.size wx w') :
  Calls prog 186 #[nvS p h k,nvS q i j] w fun e w'=>e=E/\Below w.heap.size w w':=by
 have N:=qh c1;clear c1;have K:=qh c2;clear c2;have L:=qh c3;clear c3;have J:=qh c4;clear c4;have F:=qh c5;clear c5;have g:=qh (y2v p q h k i j w);have a1:Below (WR p q h k i j w).heap.size (WR p q h k i j w) (WR p q h k i j w).drew:=blr.drew;unfold nvS
 rcases hE with ⟨r,x,y,rfl⟩|rfl
 ·-- a number
  go_enter func186,ntmps186
  go_wp2_with fail
  change Code.wp _ _ _ _ (WR p q h k i j w)
  go_region_held2 (fun l=>Below (WR p q h k i j w).heap.size (WR p q h k i j w) l /\
   l.cell? ⟨w.heap.size,0,none⟩=some (.bool p)/\l.cell? ⟨w.heap.size,1,none⟩=some (.string h)/\l.cell? ⟨w.heap.size,2,none⟩=some (.string k) /\
   l.cell? ⟨w.heap.size+1,0,none⟩=some (.bool q)/\l.cell? ⟨w.heap.size+1,1,none⟩=some (.string i)/\l.cell? ⟨w.heap.size+1,2,none⟩=some (.string j))
   (first|exact z5w (by assumption)|exact z5w blr.drew)
   (first
   | (go_at_call_of 189 (Value.string h);refine(N.out _ (z0a g.out (by assumption))).mono ?_;rintro e O ⟨rfl,D⟩;have H:=z0a (by assumption) D)
   | (go_at_call_of 189 (Value.string i);refine(K.out _ (z0a g.out (by assumption))).mono ?_;rintro e Y ⟨rfl,A⟩;have I:=z0a (by assumption) A)
   | (go_at_call 188;refine(z1n _ _).mono ?_;rintro e w' ⟨rfl,rfl⟩)
   | (go_at_call 187;refine(L.out _ (z0a g.out (by assumption))).mono ?_;rintro e R ⟨rfl,C⟩;have o:=z0a (by assumption) C))
  rename_i G;obtain⟨_,e0,P,Z,e3,e4,U⟩:=G
  go_wp2_with fail
  refine(J.out _ (z0a g.out o)).mono ?_;rintro e Q ⟨rfl,z⟩;have m:=z0a o z
  go_wp2_with fail
  refine(z1n _ _).mono ?_;rintro e w' ⟨rfl,rfl⟩
  go_wp2_with fail
  refine(F.out _ (z0a g.out m)).mono ?_;rintro e T ⟨rfl,B⟩;have u:=z0a m B;obtain⟨S,X,W,f0,f1,f2⟩:=y5u u;obtain⟨s0,s1,s2⟩:=set3 (a':=.bool r) (b':=.string x) (c':=.string y) S X W
  go_wp2_with fail
  refine bodyPost_ret (z3q rfl _ _ (w.heap.size+1+1) r x y rfl s0 s1 s2) rfl ⟨rfl,(((z0a g.out u).setCell ?_ _).setCell ?_ _).setCell ?_ _⟩<;>(show w.heap.size<=w.heap.size+1+1;omega)
 unfold PT at F ⊢
 go_enter func186,ntmps186
 go_wp2_with fail
 change Code.wp _ _ _ _ (WR p q h k i j w)
 go_region_held2 (fun l=>Below (WR p q h k i j w).heap.size (WR p q h k i j w) l /\
  l.cell? ⟨w.heap.size,0,none⟩=some (.bool p)/\l.cell? ⟨w.heap.size,1,none⟩=some (.string h)/\l.cell? ⟨w.heap.size,2,none⟩=some (.string k) /\
  l.cell? ⟨w.heap.size+1,0,none⟩=some (.bool q)/\l.cell? ⟨w.heap.size+1,1,none⟩=some (.string i)/\l.cell? ⟨w.heap.size+1,2,none⟩=some (.string j))
  (first|exact z5w (by assumption)|exact z5w blr.drew)
  (first
  | (go_at_call_of 189 (Value.string h);refine(N.out _ (z0a g.out (by assumption))).mono ?_;rintro e O ⟨rfl,D⟩;have H:=z0a (by assumption) D)
  | (go_at_call_of 189 (Value.string i);refine(K.out _ (z0a g.out (by assumption))).mono ?_;rintro e Y ⟨rfl,A⟩;have I:=z0a (by assumption) A)
  | (go_at_call 188;refine(z1n _ _).mono ?_;rintro e w' ⟨rfl,rfl⟩)
  | (go_at_call 187;refine(L.out _ (z0a g.out (by assumption))).mono ?_;rintro e R ⟨rfl,C⟩;have o:=z0a (by assumption) C))
 rename_i G;obtain⟨_,e0,P,Z,e3,e4,U⟩:=G
 go_wp2_with fail
 refine(J.out _ (z0a g.out o)).mono ?_;rintro e Q ⟨rfl,z⟩;have m:=z0a o z
 go_wp2_with fail
 refine(z1n _ _).mono ?_;rintro e w' ⟨rfl,rfl⟩
 go_wp2_with fail
 refine(F.out _ (z0a g.out m)).mono ?_;rintro e T ⟨rfl,B⟩;have u:=z0a m B
 go_wp2_with fail
 exact⟨rfl,rfl,z0a g.out u⟩
theorem v5m (p q:Bool) (h k i j a b c d:ByteArray) (s:Bool) (E:Ending) (w:World) (hE:(∃ r x y,E=.returned (.agg #[.bool r,.string x,.string y]))\/E=PT)
  (c1:∀ wx,Below w.heap.size w wx->Calls prog 189 #[.string h,.string j] wx (StrZ a wx))
  (c2:∀ wx,Below w.heap.size w wx->Calls prog 189 #[.string i,.string k] wx (StrZ b wx))
  (c3:∀ wx,Below w.heap.size w wx->Calls prog 187 #[.bool p,.string a,.bool (!q),.string b] wx fun e w'=>e=.returned (.tuple #[.bool s,.string c])/\Below wx.heap.size wx w')
  (c4:∀ wx,Below w.heap.size w wx->Calls prog 189 #[.string k,.string j] wx (StrZ d wx))
  (c5:∀ wx,Below w.heap.size w wx->Calls prog 190 #[.bool s,.string c,.string d] wx fun e w'=>e=E/\Below wx.heap.size wx w') :
  Calls prog 212 #[nvS p h k,nvS q i j] w fun e w'=>e=E/\Below w.heap.size w w':=by
 have N:=qh c1;clear c1;have K:=qh c2;clear c2;have L:=qh c3;clear c3;have J:=qh c4;clear c4;have F:=qh c5;clear c5;have g:=qh (y2v p q h k i j w);have a1:Below (WR p q h k i j w).heap.size (WR p q h k i j w) (WR p q h k i j w).drew:=blr.drew;unfold nvS
 rcases hE with ⟨r,x,y,rfl⟩|rfl
 ·-- a number
  go_enter func212,ntmps212
  go_wp2_with fail
  change Code.wp _ _ _ _ (WR p q h k i j w)
  go_region_held2 (fun l=>Below (WR p q h k i j w).heap.size (WR p q h k i j w) l /\
   l.cell? ⟨w.heap.size,0,none⟩=some (.bool p)/\l.cell? ⟨w.heap.size,1,none⟩=some (.string h)/\l.cell? ⟨w.heap.size,2,none⟩=some (.string k) /\
   l.cell? ⟨w.heap.size+1,0,none⟩=some (.bool q)/\l.cell? ⟨w.heap.size+1,1,none⟩=some (.string i)/\l.cell? ⟨w.heap.size+1,2,none⟩=some (.string j))
   (first|exact z5w (by assumption)|exact z5w blr.drew)
   (first
   | (go_at_call_of 189 (Value.string h);refine(N.out _ (z0a g.out (by assumption))).mono ?_;rintro e O ⟨rfl,D⟩;have H:=z0a (by assumption) D)
   | (go_at_call_of 189 (Value.string i);refine(K.out _ (z0a g.out (by assumption))).mono ?_;rintro e Y ⟨rfl,A⟩;have I:=z0a (by assumption) A)
   | (go_at_call 188;refine(z1n _ _).mono ?_;rintro e w' ⟨rfl,rfl⟩)
   | (go_at_call 187;refine(L.out _ (z0a g.out (by assumption))).mono ?_;rintro e R ⟨rfl,C⟩;have o:=z0a (by assumption) C))
  rename_i G;obtain⟨_,e0,P,Z,e3,e4,U⟩:=G
  go_wp2_with fail
  refine(J.out _ (z0a g.out o)).mono ?_;rintro e Q ⟨rfl,z⟩;have m:=z0a o z
  go_wp2_with fail
  refine(z1n _ _).mono ?_;rintro e w' ⟨rfl,rfl⟩
  go_wp2_with fail
  refine(F.out _ (z0a g.out m)).mono ?_;rintro e T ⟨rfl,B⟩;have u:=z0a m B;obtain⟨S,X,W,f0,f1,f2⟩:=y5u u;obtain⟨s0,s1,s2⟩:=set3 (a':=.bool r) (b':=.string x) (c':=.string y) S X W
  go_wp2_with fail
  refine bodyPost_ret (z3q rfl _ _ (w.heap.size+1+1) r x y rfl s0 s1 s2) rfl ⟨rfl,(((z0a g.out u).setCell ?_ _).setCell ?_ _).setCell ?_ _⟩<;>(show w.heap.size<=w.heap.size+1+1;omega)
 unfold PT at F ⊢
 go_enter func212,ntmps212
 go_wp2_with fail
 change Code.wp _ _ _ _ (WR p q h k i j w)
 go_region_held2 (fun l=>Below (WR p q h k i j w).heap.size (WR p q h k i j w) l /\
  l.cell? ⟨w.heap.size,0,none⟩=some (.bool p)/\l.cell? ⟨w.heap.size,1,none⟩=some (.string h)/\l.cell? ⟨w.heap.size,2,none⟩=some (.string k) /\
  l.cell? ⟨w.heap.size+1,0,none⟩=some (.bool q)/\l.cell? ⟨w.heap.size+1,1,none⟩=some (.string i)/\l.cell? ⟨w.heap.size+1,2,none⟩=some (.string j))
  (first|exact z5w (by assumption)|exact z5w blr.drew)
  (first
  | (go_at_call_of 189 (Value.string h);refine(N.out _ (z0a g.out (by assumption))).mono ?_;rintro e O ⟨rfl,D⟩;have H:=z0a (by assumption) D)
  | (go_at_call_of 189 (Value.string i);refine(K.out _ (z0a g.out (by assumption))).mono ?_;rintro e Y ⟨rfl,A⟩;have I:=z0a (by assumption) A)
  | (go_at_call 188;refine(z1n _ _).mono ?_;rintro e w' ⟨rfl,rfl⟩)
  | (go_at_call 187;refine(L.out _ (z0a g.out (by assumption))).mono ?_;rintro e R ⟨rfl,C⟩;have o:=z0a (by assumption) C))
 rename_i G;obtain⟨_,e0,P,Z,e3,e4,U⟩:=G
 go_wp2_with fail
 refine(J.out _ (z0a g.out o)).mono ?_;rintro e Q ⟨rfl,z⟩;have m:=z0a o z
 go_wp2_with fail
 refine(z1n _ _).mono ?_;rintro e w' ⟨rfl,rfl⟩
 go_wp2_with fail
 refine(F.out _ (z0a g.out m)).mono ?_;rintro e T ⟨rfl,B⟩;have u:=z0a m B
 go_wp2_with fail
 exact⟨rfl,rfl,z0a g.out u⟩
theorem v5z (p q:Bool) (h g j i a b:ByteArray) (E:Ending) (w:World) (O:(∃ r x y,E=.returned (.agg #[.bool r,.string x,.string y]))\/E=PT)
  (c1:∀ wx,Below w.heap.size w wx->Calls prog 189 #[.string h,.string j] wx (StrZ a wx))
  (c2:∀ wx,Below w.heap.size w wx->Calls prog 189 #[.string g,.string i] wx (StrZ b wx))
  (c5:∀ wx,Below w.heap.size w wx->Calls prog 190 #[.bool (p != q),.string a,.string b] wx fun e w'=>e=E/\Below wx.heap.size wx w') :
  Calls prog 192 #[nvS p h g,nvS q j i] w fun e w'=>e=E/\Below w.heap.size w w':=by
 have D:=qh c1;clear c1;have C:=qh c2;clear c2;have u:=qh c5;clear c5;have c:=qh (y2v p q h g j i w);have P:Below (WR p q h g j i w).heap.size (WR p q h g j i w) (WR p q h g j i w).drew:=blr.drew;unfold nvS
 rcases O with ⟨r,x,y,rfl⟩|rfl
 ·-- a number
  go_enter func192,ntmps192
  go_wp2_with fail
  change Code.wp _ _ _ _ (WR p q h g j i w)
  go_region_held2 (fun d=>Below (w.heap.size+1+1) (WR p q h g j i w) d /\
   d.cell? ⟨w.heap.size,0,none⟩=some (.bool p)/\d.cell? ⟨w.heap.size,1,none⟩=some (.string h)/\d.cell? ⟨w.heap.size,2,none⟩=some (.string g) /\
   d.cell? ⟨w.heap.size+1,0,none⟩=some (.bool q)/\d.cell? ⟨w.heap.size+1,1,none⟩=some (.string j)/\d.cell? ⟨w.heap.size+1,2,none⟩=some (.string i))
   (first|exact z2i (y2e (by assumption))|exact z2i (y2e blr.drew)|exact z2i ((((y2e (by assumption)).setCell nlr _).setCell nlr _).setCell nlr _))
   (first
   | (go_at_call_of 189 (Value.string h);refine(D.out _ (z0a c.out (by assumption))).mono ?_;rintro e H ⟨rfl,s⟩;have z:=z0a (by assumption) s)
   | (go_at_call_of 189 (Value.string g);refine(C.out _ (z0a c.out (by assumption))).mono ?_;rintro e N ⟨rfl,m⟩;have A:=z0a (by assumption) m)
   | (go_at_call 188;refine(z1n _ _).mono ?_;rintro e w' ⟨rfl,rfl⟩)
   | (go_at_call 190;refine(u.out _ (z0a c.out (by assumption))).mono ?_;rintro e J ⟨rfl,o⟩;have k:=z0a (by assumption) o;obtain⟨B,G,F,I,K,L⟩:=y5u k;obtain⟨s0,s1,s2⟩:=set3 (a':=.bool r) (b':=.string x) (c':=.string y) B G F))
  go_wp2_with fail
  refine bodyPost_ret (z3q rfl _ _ (w.heap.size+1+1) r x y rfl s0 s1 s2) rfl ⟨rfl,(((z0a c.out k).setCell ?_ _).setCell ?_ _).setCell ?_ _⟩<;>(show w.heap.size<=w.heap.size+1+1;omega)
 unfold PT at u ⊢
 go_enter func192,ntmps192
 go_wp2_with fail
 change Code.wp _ _ _ _ (WR p q h g j i w)
 go_region_held2 (fun d=>Below (w.heap.size+1+1) (WR p q h g j i w) d /\
  d.cell? ⟨w.heap.size,0,none⟩=some (.bool p)/\d.cell? ⟨w.heap.size,1,none⟩=some (.string h)/\d.cell? ⟨w.heap.size,2,none⟩=some (.string g) /\
  d.cell? ⟨w.heap.size+1,0,none⟩=some (.bool q)/\d.cell? ⟨w.heap.size+1,1,none⟩=some (.string j)/\d.cell? ⟨w.heap.size+1,2,none⟩=some (.string i))
  (first|exact z2i (y2e (by assumption))|exact z2i (y2e blr.drew)|exact z2i ((((y2e (by assumption)).setCell nlr _).setCell nlr _).setCell nlr _))
  (first
  | (go_at_call_of 189 (Value.string h);refine(D.out _ (z0a c.out (by assumption))).mono ?_;rintro e H ⟨rfl,s⟩;have z:=z0a (by assumption) s)
  | (go_at_call_of 189 (Value.string g);refine(C.out _ (z0a c.out (by assumption))).mono ?_;rintro e N ⟨rfl,m⟩;have A:=z0a (by assumption) m)
  | (go_at_call 188;refine(z1n _ _).mono ?_;rintro e w' ⟨rfl,rfl⟩)
  | (go_at_call 190;refine(u.out _ (z0a c.out (by assumption))).mono ?_;rintro e J ⟨rfl,o⟩;have k:=z0a (by assumption) o;obtain⟨B,G,F,I,K,L⟩:=y5u k;refine u2d (by assumption) 26 (.agg #[.bool false,.string ⟨#[]⟩,.string ⟨#[]⟩]) ⟨rfl,rfl,z0a c.out k⟩ (fun l=>?_)))
 exact l.out.elim
theorem v4t (p q:Bool) (h g j i a b:ByteArray) (E:Ending) (w:World) (O:(∃ r x y,E=.returned (.agg #[.bool r,.string x,.string y]))\/E=PT)
  (c1:∀ wx,Below w.heap.size w wx->Calls prog 189 #[.string h,.string i] wx (StrZ a wx))
  (c2:∀ wx,Below w.heap.size w wx->Calls prog 189 #[.string g,.string j] wx (StrZ b wx))
  (c5:∀ wx,Below w.heap.size w wx->Calls prog 190 #[.bool (p != q),.string a,.string b] wx fun e w'=>e=E/\Below wx.heap.size wx w') :
  Calls prog 213 #[nvS p h g,nvS q j i] w fun e w'=>e=E/\Below w.heap.size w w':=by
 have D:=qh c1;clear c1;have C:=qh c2;clear c2;have u:=qh c5;clear c5;have c:=qh (y2v p q h g j i w);have P:Below (WR p q h g j i w).heap.size (WR p q h g j i w) (WR p q h g j i w).drew:=blr.drew;unfold nvS
 rcases O with ⟨r,x,y,rfl⟩|rfl
 ·-- a number
  go_enter func213,ntmps213
  go_wp2_with fail
  change Code.wp _ _ _ _ (WR p q h g j i w)
  go_region_held2 (fun d=>Below (w.heap.size+1+1) (WR p q h g j i w) d /\
   d.cell? ⟨w.heap.size,0,none⟩=some (.bool p)/\d.cell? ⟨w.heap.size,1,none⟩=some (.string h)/\d.cell? ⟨w.heap.size,2,none⟩=some (.string g) /\
   d.cell? ⟨w.heap.size+1,0,none⟩=some (.bool q)/\d.cell? ⟨w.heap.size+1,1,none⟩=some (.string j)/\d.cell? ⟨w.heap.size+1,2,none⟩=some (.string i))
   (first|exact z2i (y2e (by assumption))|exact z2i (y2e blr.drew)|exact z2i ((((y2e (by assumption)).setCell nlr _).setCell nlr _).setCell nlr _))
   (first
   | (go_at_call_of 189 (Value.string h);refine(D.out _ (z0a c.out (by assumption))).mono ?_;rintro e H ⟨rfl,s⟩;have z:=z0a (by assumption) s)
   | (go_at_call_of 189 (Value.string g);refine(C.out _ (z0a c.out (by assumption))).mono ?_;rintro e N ⟨rfl,m⟩;have A:=z0a (by assumption) m)
   | (go_at_call 188;refine(z1n _ _).mono ?_;rintro e w' ⟨rfl,rfl⟩)
   | (go_at_call 190;refine(u.out _ (z0a c.out (by assumption))).mono ?_;rintro e J ⟨rfl,o⟩;have k:=z0a (by assumption) o;obtain⟨B,G,F,I,K,L⟩:=y5u k;obtain⟨s0,s1,s2⟩:=set3 (a':=.bool r) (b':=.string x) (c':=.string y) B G F))
  go_wp2_with fail
  refine bodyPost_ret (z3q rfl _ _ (w.heap.size+1+1) r x y rfl s0 s1 s2) rfl ⟨rfl,(((z0a c.out k).setCell ?_ _).setCell ?_ _).setCell ?_ _⟩<;>(show w.heap.size<=w.heap.size+1+1;omega)
 unfold PT at u ⊢
 go_enter func213,ntmps213
 go_wp2_with fail
 change Code.wp _ _ _ _ (WR p q h g j i w)
 go_region_held2 (fun d=>Below (w.heap.size+1+1) (WR p q h g j i w) d /\
  d.cell? ⟨w.heap.size,0,none⟩=some (.bool p)/\d.cell? ⟨w.heap.size,1,none⟩=some (.string h)/\d.cell? ⟨w.heap.size,2,none⟩=some (.string g) /\
  d.cell? ⟨w.heap.size+1,0,none⟩=some (.bool q)/\d.cell? ⟨w.heap.size+1,1,none⟩=some (.string j)/\d.cell? ⟨w.heap.size+1,2,none⟩=some (.string i))
  (first|exact z2i (y2e (by assumption))|exact z2i (y2e blr.drew)|exact z2i ((((y2e (by assumption)).setCell nlr _).setCell nlr _).setCell nlr _))
  (first
  | (go_at_call_of 189 (Value.string h);refine(D.out _ (z0a c.out (by assumption))).mono ?_;rintro e H ⟨rfl,s⟩;have z:=z0a (by assumption) s)
  | (go_at_call_of 189 (Value.string g);refine(C.out _ (z0a c.out (by assumption))).mono ?_;rintro e N ⟨rfl,m⟩;have A:=z0a (by assumption) m)
  | (go_at_call 188;refine(z1n _ _).mono ?_;rintro e w' ⟨rfl,rfl⟩)
  | (go_at_call 190;refine(u.out _ (z0a c.out (by assumption))).mono ?_;rintro e J ⟨rfl,o⟩;have k:=z0a (by assumption) o;obtain⟨B,G,F,I,K,L⟩:=y5u k;refine u2d (by assumption) 26 (.agg #[.bool false,.string ⟨#[]⟩,.string ⟨#[]⟩]) ⟨rfl,rfl,z0a c.out k⟩ (fun l=>?_)))
 exact l.out.elim
end
section
open Go.RowKit
theorem u4p (x y:Rat) (w:World) (d:fitQ x) (g:fitQ y) (l:Tab w):Calls prog 186 #[nv x,nv y] w (QEnd (x+y) w):=by
 have i:∀ c,Below w.heap.size w c->Tab c:=fun c h=>l.below h nlr;have m:fits (x.num.natAbs*y.den):=z3e d.1 g.2;have o:fits (y.num.natAbs*x.den):=z3e g.1 d.2;have k:fits (x.num.natAbs*y.den+y.num.natAbs*x.den):=y8u d.1 g.2 g.1 d.2;have j:fits (x.den*y.den):=z3e d.2 g.2;unfold QEnd;rw[u3a x y];exact v5f (negQ x) (negQ y) _ _ _ _ (str (dec (x.num.natAbs*y.den))) (str (dec (y.num.natAbs*x.den))) _ (str (dec (x.den*y.den))) _ _ w (qE _)
  (fun c h=>z4y _ _ c (z6e d) (z3y g) m (i c h)) (fun c h=>z4y _ _ c (z6e g) (z3y d) o (i c h))
  (fun c h=>y1g (negQ x) (negQ y) _ _ c k (i c h)) (fun c h=>z4y _ _ c (z3y d) (z3y g) j (i c h))
  (fun c h=>y0p _ _ _ c (z9j k (x8y _ _ _ _)) j (Nat.mul_ne_zero x.den_nz y.den_nz) (i c h))
theorem u3s (x y:Rat) (w:World) (d:fitQ x) (g:fitQ y) (l:Tab w):Calls prog 212 #[nv x,nv y] w (QEnd (x-y) w):=by
 have i:∀ c,Below w.heap.size w c->Tab c:=fun c h=>l.below h nlr;have m:fits (x.num.natAbs*y.den):=z3e d.1 g.2;have o:fits (y.num.natAbs*x.den):=z3e g.1 d.2;have k:fits (x.num.natAbs*y.den+y.num.natAbs*x.den):=y8u d.1 g.2 g.1 d.2;have j:fits (x.den*y.den):=z3e d.2 g.2;unfold QEnd;rw[u3r x y];exact v5m (negQ x) (negQ y) _ _ _ _ (str (dec (x.num.natAbs*y.den))) (str (dec (y.num.natAbs*x.den))) _ (str (dec (x.den*y.den))) _ _ w (qE _)
  (fun c h=>z4y _ _ c (z6e d) (z3y g) m (i c h)) (fun c h=>z4y _ _ c (z6e g) (z3y d) o (i c h))
  (fun c h=>y1g (negQ x) (!negQ y) _ _ c k (i c h)) (fun c h=>z4y _ _ c (z3y d) (z3y g) j (i c h))
  (fun c h=>y0p _ _ _ c (z9j k (x8y _ _ _ _)) j (Nat.mul_ne_zero x.den_nz y.den_nz) (i c h))
theorem u2x (x y:Rat) (w:World) (d:fitQ x) (g:fitQ y) (l:Tab w):Calls prog 192 #[nv x,nv y] w (QEnd (x*y) w):=by
 have i:∀ c,Below w.heap.size w c->Tab c:=fun c h=>l.below h nlr;have j:fits (x.num.natAbs*y.num.natAbs):=z3e d.1 g.1;have k:fits (x.den*y.den):=z3e d.2 g.2;unfold QEnd;rw[u3k x y];exact v5z (negQ x) (negQ y) _ _ _ _ (str (dec (x.num.natAbs*y.num.natAbs))) (str (dec (x.den*y.den))) _ w (qE _)
  (fun c h=>z4y _ _ c (z6e d) (z6e g) j (i c h)) (fun c h=>z4y _ _ c (z3y d) (z3y g) k (i c h))
  (fun c h=>y0p _ _ _ c j k (Nat.mul_ne_zero x.den_nz y.den_nz) (i c h))
theorem u3v (x y:Rat) (w:World) (d:fitQ x) (g:fitQ y) (m:y≠0) (l:Tab w):Calls prog 213 #[nv x,nv y] w (QEnd (x / y) w):=by
 have i:∀ c,Below w.heap.size w c->Tab c:=fun c h=>l.below h nlr;have j:fits (x.num.natAbs*y.den):=z3e d.1 g.2;have k:fits (x.den*y.num.natAbs):=z3e d.2 g.1;unfold QEnd;rw[u2n x y];exact v4t (negQ x) (negQ y) _ _ _ _ (str (dec (x.num.natAbs*y.den))) (str (dec (x.den*y.num.natAbs))) _ w (qE _)
  (fun c h=>z4y _ _ c (z6e d) (z3y g) j (i c h)) (fun c h=>z4y _ _ c (z3y d) (z6e g) k (i c h))
  (fun c h=>y0p _ _ _ c j k ((Nat.mul_ne_zero x.den_nz (fun e=>m (Rat.num_eq_zero.1 (Int.natAbs_eq_zero.1 e))))) (i c h))
theorem v5d:∀ args w,(callFunc 186 args).run prog w=.ok (.enter 186 args) w:=fun args w=>by kernel_rfl
theorem x4e (a b:ByteArray) (w:World) (i:a.size<=9223372036854775807) (hb:b.size<=9223372036854775807) (c:Tab w) :
  Calls prog 158 #[.string a,.string b] w (PairEnd (y8w a b) w):=by
 have d:=z5q 186 (fun x y=>x+y) a b w i hb c v5d (fun x y k l j h=>u4p x y j (z2p k).2 (z2p l).2 (c.below h nlr));have g:okR (fun x y=>x+y) a b=y8w a b:=rfl;rw[g] at d;generalize y8w a b=r at *;obtain⟨u,p⟩:=r;have m:=qh d;clear d g c i hb
 go_enter func158,ntmps158
 go_wp2_with fail
 refine m.out.mono ?_;rintro e s ⟨rfl,hb⟩;have o:=qh hb;clear hb;go_wp2;go_ret2;exact⟨rfl,o.out⟩
theorem v6s:∀ args w,(callFunc 212 args).run prog w=.ok (.enter 212 args) w:=fun args w=>by kernel_rfl
theorem v6r (a b:ByteArray) (w:World) (i:a.size<=9223372036854775807) (hb:b.size<=9223372036854775807) (c:Tab w) :
  Calls prog 193 #[.string a,.string b] w (PairEnd (x7u a b) w):=by
 have d:=z5q 212 (fun x y=>x-y) a b w i hb c v6s (fun x y k l j h=>u3s x y j (z2p k).2 (z2p l).2 (c.below h nlr));have g:okR (fun x y=>x-y) a b=x7u a b:=rfl;rw[g] at d;generalize x7u a b=r at *;obtain⟨u,p⟩:=r;have m:=qh d;clear d g c i hb
 go_enter func193,ntmps193
 go_wp2_with fail
 refine m.out.mono ?_;rintro e s ⟨rfl,hb⟩;have o:=qh hb;clear hb;go_wp2;go_ret2;exact⟨rfl,o.out⟩
theorem v4a:∀ args w,(callFunc 192 args).run prog w=.ok (.enter 192 args) w:=fun args w=>by kernel_rfl
theorem x3x (a b:ByteArray) (w:World) (i:a.size<=9223372036854775807) (hb:b.size<=9223372036854775807) (c:Tab w) :
  Calls prog 162 #[.string a,.string b] w (PairEnd (y8q a b) w):=by
 have d:=z5q 192 (fun x y=>x*y) a b w i hb c v4a (fun x y k l j h=>u2x x y j (z2p k).2 (z2p l).2 (c.below h nlr));have g:okR (fun x y=>x*y) a b=y8q a b:=rfl;rw[g] at d;generalize y8q a b=r at *;obtain⟨u,p⟩:=r;have m:=qh d;clear d g c i hb
 go_enter func162,ntmps162
 go_wp2_with fail
 refine m.out.mono ?_;rintro e s ⟨rfl,hb⟩;have o:=qh hb;clear hb;go_wp2;go_ret2;exact⟨rfl,o.out⟩
theorem z8f (a:ByteArray) (w:World) (h:a.size<=9223372036854775807) (d:Tab w) :
  Calls prog 160 #[.string a] w fun e w'=>e=.returned (.bool (prs a).isSome)/\Below w.heap.size w w':=by
 have c:=z7t a w h d;obtain⟨r,x,y,g⟩:=y6u (prs a);rw[g] at c;generalize (prs a).isSome=o at *;have i:=qh c;clear c g h d
 go_enter func160,ntmps160
 go_wp2_with fail
 refine i.out.mono ?_;rintro e w' ⟨rfl,hb⟩;have j:=qh hb;clear hb;go_wp2;go_ret;exact⟨rfl,j.out⟩
theorem y0c:prs ⟨#[48]⟩=some 0:=by
 have:txt 0=⟨#[48]⟩:=by unfold txt txtL;rw[show negQ 0=false from rfl,show (0:Rat).num.natAbs=0 from rfl,show (0:Rat).den=1 from rfl,z5d];rfl
 rw[<- this];exact z2h (by unfold fitQ;rw[show (0:Rat).num.natAbs=0 from rfl,show (0:Rat).den=1 from rfl,z5d,z5k];decide)
theorem y4q {b:ByteArray} (h:prs b=some 0):b=⟨#[48]⟩:=by
 have d:=(z2p h).1;have c:=(z2p y0c).1;rw[d,c]
theorem x5a:∀ args w,(callFunc 213 args).run prog w=.ok (.enter 213 args) w:=fun args w=>by kernel_rfl
theorem v3p (a b:ByteArray) (w:World) (l:a.size<=9223372036854775807) (hb:b.size<=9223372036854775807) (j:Tab w) :
  Calls prog 194 #[.string a,.string b] w (PairEnd (y5f a b) w):=by
 have c1:=z8f a w l j;by_cases p:b=⟨#[48]⟩
 ·subst p;cases g:prs a with
  | some x =>
   have i:y5f a ⟨#[48]⟩=(str [],4):=by unfold y5f;rw[g,y0c];simp
   rw[i];rw[g] at c1;simp only[Option.isSome] at c1;have k:=qh c1;clear c1 l hb j g i
   go_enter func194,ntmps194
   go_wp2_with fail
   refine k.out.mono ?_;rintro e J ⟨rfl,hb⟩;have G:=qh hb;clear hb;go_wp2;go_ret2;exact⟨rfl,G.out⟩
  | none =>
   have i:y5f a ⟨#[48]⟩=(str [],1):=by unfold y5f;rw[g]
   rw[i];have c2:=fun m (h:Below w.heap.size w m)=>z5q 213 (fun x y=>x / y) a ⟨#[48]⟩ m l hb (j.below h nlr) x5a (fun x y u=>by rw[g] at u;simp at u);have C:okR (fun x y=>x / y) a ⟨#[48]⟩=(str [],1):=by unfold okR;rw[g]
   rw[C] at c2;rw[g] at c1;simp only[Option.isSome] at c1;have k:=qh c1;have s:=qh c2;clear c1 c2 l hb j g i C
   go_enter func194,ntmps194
   go_wp2_with fail
   refine nxa k.out fun z c=>?_
   go_wp2_with fail
   refine nxb (s.out _ c.out) c fun A d=>?_;go_wp2;go_ret2;exact⟨rfl,d.out⟩
 have F:(b.toList==[48])=false:=z4j p;have c2:=fun m (h:Below w.heap.size w m)=>z5q 213 (fun x y=>x / y) a b m l hb (j.below h nlr) x5a
  (fun x y u B E D=>u3v x y E (z2p u).2 (z2p B).2 (fun e=>by subst e;exact p (y4q B)) (j.below (h.trans (D.mono h.size)) nlr))
 have i:okR (fun x y=>x / y) a b=y5f a b:=by
  unfold okR y5f;cases g:prs a with
  | none=>rfl
  | some x =>
   cases H:prs b with
   | none=>rfl
   | some y=>simp only;rw[if_neg (fun e=>by subst e;exact p (y4q H))]
 rw[i] at c2;generalize y5f a b=r at *;obtain⟨K,I⟩:=r;generalize (prs a).isSome=o at *;have k:=qh c1;have s:=qh c2;clear c1 c2 l hb j i p;cases o
 ·go_enter func194,ntmps194
  go_wp2_with fail
  refine nxa k.out fun z c=>?_
  go_wp2_with fail
  refine nxb (s.out _ c.out) c fun A d=>?_;go_wp2;go_ret2;exact⟨rfl,d.out⟩
 go_enter func194,ntmps194
 go_wp2_with fail
 refine nxa k.out fun z c=>?_
 go_wp2_with fail
 refine nxb (s.out _ c.out) c fun A d=>?_;go_wp2;go_ret2;exact⟨rfl,d.out⟩
end
section
open Go.RowKit
attribute [local go_sem ↓] Go.wp_at_zero Go.wp_at_succ
theorem v9g (p q:Bool) (B D u z a b c:ByteArray) (s:Bool) (v:Int) (s1 s2:ByteArray) (w:World)
  (E:((c.toList==[48])=true/\v=0)\/((c.toList==[48])=false/\s=true/\v=-1)\/((c.toList==[48])=false/\s=false/\v=1))
  (c0:∀ wx,Below w.heap.size w wx->Calls prog 191 #[.string s1] wx fun e w'=>e=.returned (.tuple #[.agg #[.bool p,.string B,.string D],.bool true])/\Below wx.heap.size wx w')
  (H:∀ wx,Below w.heap.size w wx->Calls prog 191 #[.string s2] wx fun e w'=>e=.returned (.tuple #[.agg #[.bool q,.string u,.string z],.bool true])/\Below wx.heap.size wx w')
  (c1:∀ wx,Below w.heap.size w wx->Calls prog 189 #[.string B,.string z] wx (StrZ a wx))
  (c2:∀ wx,Below w.heap.size w wx->Calls prog 189 #[.string u,.string D] wx (StrZ b wx))
  (c3:∀ wx,Below w.heap.size w wx->Calls prog 187 #[.bool p,.string a,.bool (!q),.string b] wx fun e w'=>e=.returned (.tuple #[.bool s,.string c])/\Below wx.heap.size wx w') :
  Calls prog 195 #[.string s1,.string s2] w (IntEnd v w):=by
 have Q:=qh c0;clear c0;have J:=qh H;clear H;have T:=qh c1;clear c1;have R:=qh c2;clear c2;have S:=qh c3;clear c3;have Z:=qh E;clear E
 go_enter func195,ntmps195
 go_wp2_with fail
 refine(Q.out _ blr).mono ?_;rintro e j ⟨rfl,o⟩;have Y:=qh o;have A:=qh (o.alloc o.size (.cells #[.bool p,.string B,.string D] 189));clear o
 go_wp2_with fail
 refine(J.out _ A.out).mono ?_;rintro e l ⟨rfl,m⟩;have G:=qh m;have g:=qh ((z0a A.out m).alloc (Nat.le_trans A.out.size m.size) (.cells #[.bool q,.string u,.string z] 189));clear m
 go_wp2_with fail
 obtain⟨W,F⟩:=exq (l.alloc (.cells #[.bool q,.string u,.string z] 189));have k:∀ d,Below W.heap.size W d->(Below W.heap.size W d /\
  d.cell? ⟨j.heap.size,0,none⟩=some (.bool p)/\d.cell? ⟨j.heap.size,1,none⟩=some (.string B)/\d.cell? ⟨j.heap.size,2,none⟩=some (.string D) /\
  d.cell? ⟨l.heap.size,0,none⟩=some (.bool q)/\d.cell? ⟨l.heap.size,1,none⟩=some (.string u)/\d.cell? ⟨l.heap.size,2,none⟩=some (.string z)):=by
  intro d h;subst F;have z1:=G.out.size;rw[World.size_alloc] at z1;have K:∀ (i:Nat) (v:Value),(j.alloc (.cells #[.bool p,.string B,.string D] 189)).cell? ⟨j.heap.size,i,none⟩=some v->d.cell? ⟨j.heap.size,i,none⟩=some v:=by
   intro i v E;refine(h.cell (p:=⟨j.heap.size,i,none⟩) (by rw[World.size_alloc];show j.heap.size<_;omega)).trans ?_;rw[World.cell?_alloc_past (hn:=by omega)];exact(G.out.cell (p:=⟨j.heap.size,i,none⟩) (by rw[World.size_alloc];show j.heap.size<_;omega)).trans E
  have I:∀ (i:Nat) (v:Value),(l.alloc (.cells #[.bool q,.string u,.string z] 189)).cell? ⟨l.heap.size,i,none⟩=some v->d.cell? ⟨l.heap.size,i,none⟩=some v:=by
   intro i v E;exact(h.cell (p:=⟨l.heap.size,i,none⟩) (by rw[World.size_alloc];show l.heap.size<_;omega)).trans E
  exact⟨h,K 0 _ (by simp[go_sem]),K 1 _ (by simp[go_sem]),K 2 _ (by simp[go_sem]),I 0 _ (by simp[go_sem]),I 1 _ (by simp[go_sem]),I 2 _ (by simp[go_sem])⟩
 rw[<- F];rw[<- F] at g;have P:=qh k;clear k;have U:=qh F;clear F;have a2:Below W.heap.size W W.drew:=blr.drew
 go_region_held2 (fun d=>Below W.heap.size W d /\
  d.cell? ⟨j.heap.size,0,none⟩=some (.bool p)/\d.cell? ⟨j.heap.size,1,none⟩=some (.string B)/\d.cell? ⟨j.heap.size,2,none⟩=some (.string D) /\
  d.cell? ⟨l.heap.size,0,none⟩=some (.bool q)/\d.cell? ⟨l.heap.size,1,none⟩=some (.string u)/\d.cell? ⟨l.heap.size,2,none⟩=some (.string z))
  (first|exact P.out _ (by assumption)|exact P.out _ blr.drew)
  (first
   | (go_at_call_of 189 (Value.string B);refine(T.out _ (z0a g.out (by assumption))).mono ?_;rintro e j ⟨rfl,o⟩;have X:=z0a (by assumption) o)
   | (go_at_call_of 189 (Value.string u);refine(R.out _ (z0a g.out (by assumption))).mono ?_;rintro e l ⟨rfl,m⟩;have a1:=z0a (by assumption) m)
   | (go_at_call 188;refine(z1n _ _).mono ?_;rintro e w' ⟨rfl,rfl⟩)
   | (go_at_call 187;refine(S.out _ (z0a g.out (by assumption))).mono ?_;rintro e w3 ⟨rfl,N⟩;have L:=z0a (by assumption) N))
 have C:=qh L
 rcases Z.out with ⟨O,rfl⟩|⟨O,rfl,rfl⟩|⟨O,rfl,rfl⟩
 ·go_wp2;go_ret;exact⟨rfl,z0a g.out C.out⟩
 ·go_wp2;go_ret;exact⟨rfl,z0a g.out C.out⟩
 go_wp2;go_ret;exact⟨rfl,z0a g.out C.out⟩
theorem x1n (n:Nat):((str (dec n)).toList==[48])=decide (n=0):=by
 rw[str_eq,decide_eq_decide];exact⟨fun h=>z7k (h.trans z5d.symm),fun h=>by rw[h,z5d]⟩
theorem y7h (a b:ByteArray) (w:World) (E:a.size<=9223372036854775807) (hb:b.size<=9223372036854775807) (D:Tab w) :
  Calls prog 195 #[.string a,.string b] w (IntEnd (y3h a b) w):=by
 have p:∀ c,Below w.heap.size w c->Tab c:=fun c h=>D.below h nlr;have c1:=fun c (h:Below w.heap.size w c)=>z7t a c E (p c h);have c2:=fun c (h:Below w.heap.size w c)=>z7t b c hb (p c h);cases l:prs a with
 | none =>
  have m:y3h a b=0:=by unfold y3h;rw[l]
  rw[m];simp only[l,Option.isSome,prsV] at c1;generalize (prs b).isSome=o at c2;obtain⟨r,x,y,F⟩:=y6u (prs b);rw[F] at c2;have B:=qh c1;clear c1;have C:=qh c2;clear c2 m l F D E hb p;unfold NoNum nvS at B
  go_enter func195,ntmps195
  go_wp2_with fail
  refine(B.out _ blr).mono ?_;rintro e H ⟨rfl,d⟩;have i:=qh (d.alloc d.size (.cells #[.bool false,.string ⟨#[]⟩,.string ⟨#[]⟩] 189));clear d
  go_wp2_with fail
  refine(C.out _ i.out).mono ?_;rintro e I ⟨rfl,g⟩;have j:=qh (z0a i.out g);clear g;go_wp2;go_ret;exact⟨rfl,j.out.alloc j.out.size _⟩
 | some x =>
  simp only[l,Option.isSome,prsV] at c1;cases A:prs b with
  | none =>
   have m:y3h a b=0:=by unfold y3h;rw[l,A]
   rw[m];simp only[A,Option.isSome,prsV] at c2;have B:=qh c1;clear c1;have C:=qh c2;clear c2 m l A D E hb p;unfold NoNum nvS at C;unfold nv nvS at B
   go_enter func195,ntmps195
   go_wp2_with fail
   refine(B.out _ blr).mono ?_;rintro e H ⟨rfl,d⟩;have i:=qh (d.alloc d.size (.cells #[.bool (negQ x),.string (str (dec x.num.natAbs)),.string (str (dec x.den))] 189));clear d
   go_wp2_with fail
   refine(C.out _ i.out).mono ?_;rintro e I ⟨rfl,g⟩;have j:=qh (z0a i.out g);clear g;go_wp2;go_ret;exact⟨rfl,j.out.alloc j.out.size _⟩
  | some y =>
   have u:=(z2p l).2;have z:=(z2p A).2;have m:y3h a b=cmpQ x y:=by unfold y3h;rw[l,A]
   rw[m];simp only[A,Option.isSome,prsV] at c2;have K:fits (x.num.natAbs*y.den):=z3e u.1 z.2;have L:fits (y.num.natAbs*x.den):=z3e z.1 u.2;have J:fits (x.num.natAbs*y.den+y.num.natAbs*x.den):=y8u u.1 z.2 z.1 u.2;refine v9g (negQ x) (negQ y) _ _ _ _ (str (dec (x.num.natAbs*y.den))) (str (dec (y.num.natAbs*x.den))) (str (dec (sumF (negQ x) (x.num.natAbs*y.den) (!negQ y) (y.num.natAbs*x.den)).2)) (sumF (negQ x) (x.num.natAbs*y.den) (!negQ y) (y.num.natAbs*x.den)).1 (cmpQ x y) a b w ?_ c1 c2
    (fun c h=>z4y _ _ c (z6e u) (z3y z) K (p c h)) (fun c h=>z4y _ _ c (z6e z) (z3y u) L (p c h))
    (fun c h=>y1g (negQ x) (!negQ y) _ _ c J (p c h))
   rw[u2m x y,x1n];generalize sumF (negQ x) (x.num.natAbs*y.den) (!negQ y) (y.num.natAbs*x.den)=r;obtain⟨s,k⟩:=r;by_cases G:k=0
   ·left;simp[G]
   right;cases s<;>simp[G]
end
section
open Go.RowKit
abbrev fv (g:FuncId):Value:=.func (.func g) #[] #[]
def ring0:Array Value:=#[.string ⟨#[]⟩,.string ⟨#[]⟩,.bool false,.nilFunc,.nilFunc,.nilFunc,.nilFunc,.nilFunc]
def ring1:Array Value:=#[.string ⟨#[105,110,102]⟩,.string ⟨#[48]⟩,.bool true,fv 157,fv 158,fv 159,fv 160,fv 160]
def ring2:Array Value:=#[.string ⟨#[48]⟩,.string ⟨#[49]⟩,.bool false,fv 161,fv 162,fv 163,fv 164,fv 165]
def ring3:Array Value:=#[.string ⟨#[48]⟩,.string ⟨#[49]⟩,.bool false,fv 157,fv 162,fv 166,fv 164,fv 165]
def z7d:Array Value:=#[.string ⟨#[]⟩,.string ⟨#[]⟩,.bool false,.nilFunc,.nilFunc,.nilFunc,.nilFunc,.nilFunc,
 .string ⟨#[105,110,102]⟩,.string ⟨#[48]⟩,.bool true,fv 157,fv 158,fv 159,fv 160,fv 160,
 .string ⟨#[48]⟩,.string ⟨#[49]⟩,.bool false,fv 161,fv 162,fv 163,fv 164,fv 165,
 .string ⟨#[48]⟩,.string ⟨#[49]⟩,.bool false,fv 157,fv 162,fv 166,fv 164,fv 165]
theorem z4z {P:Program} {g:Array Oper} {d:List Oper} {i:Oper} {a:Act} {w:World} {Q:Exit->Act->World->Prop} (j:i.guard=none) (t:TypeId) (x y:Operand) (l:i.op=.store t x y)
  (c c':Array Value) (o:a.eval x=.pointer (some ⟨w.heap.size,0,none⟩)) (s:a.eval y=.agg c') (hi:(P.info? t).map (·.size)=some c'.size) (k:c.size=c'.size) (m:c'.all (·.oneCell')=true)
  (h:wpList P g Q d (a.put i.dst undef) (w.alloc (.cells c' t))):wpList P g Q (i::d) a (w.alloc (.cells c t)) :=
 wpList_plain j fun _ p=>by
  unfold Oper.wp execOp;simp only[l,o,s,Instr.storeAt,Instr.sureAddr,Sem.run_bind,Sem.run_pure,Result.andThen_ok,run_storeVar_new w t c c' hi k m];exact p _ _ h
theorem z7s {fn:Func} {p:Tmp} {d:TypeId} (h:fn.results=#[.cell p d]) (c:Array Value) (P:Program) (w:World) :
  (results fn c).run P w=((asAddr (c.getD p undef)).run P w).andThen fun a w₁=>(loadVar d a).run P w₁:=by
 simp only[results,h];simp[Sem.run_bind,Result.andThen]
theorem y4a (w:World):Calls prog 134 #[] w fun e w'=>e=.returned (.agg z7d)/\Below w.heap.size w w':=by
 have hi:(prog.info? 150).map (·.size)=some z7d.size:=by kernel_rfl
 have d:z7d.all (·.oneCell')=true:=by decide +kernel
 have c:=qh hi;clear hi;have g:=qh d;clear d
 go_enter func134,ntmps134
 go_wp2_with (refine z4z rfl 150 (.tmp 0) (.tmp 4) rfl _ z7d rfl rfl c.out rfl g.out ?_)
 refine bodyPost_ret (v:=.agg z7d) ?_ rfl ⟨rfl,blr.alloc nlr _⟩;rw[z7s rfl];exact run_loadVar_new w 150 z7d 4 123 underlying150 c.out
theorem there8 {w g:World} {c:Array Value} {t:TypeId} (i:c.size=8) (h:Below (w.alloc (.cells c t)).heap.size (w.alloc (.cells c t)) g):g.there w.heap.size 0 8:=by
 intro j k;have d:w.heap.size<(w.alloc (.cells c t)).heap.size:=by simp
 have e:=h.cell (p:=⟨w.heap.size,0+j,none⟩) d;have f:=h.frozen (p:=⟨w.heap.size,0+j,none⟩) d;rw[e,f]
 constructor
 ·rw[cell_of_row _ _ (0+j) c t (0,0) (heap_alloc_last w _)];simp[i,k]
 exact World.frozen?_alloc_new w c t _
def OfEnd (r:Array Value) (b:Bool) (w:World) (e:Ending) (w':World):Prop:=e=.returned (.tuple #[.agg r,.bool b])/\Below w.heap.size w w'
theorem z6t {fn:Func} {p u:Tmp} (h:fn.results=#[.cell p 123,.tmp u]) (c:Array Value) (W:World) (b:Nat) (r:List Value) (v:Value) (j:c.getD p undef=.pointer (some ⟨b,0,none⟩)) (g:c.getD u undef=v)
  (d:r.length=8) (i:W.rangeAt b 0 r):(results fn c).run prog W=.ok (.tuple #[.agg r.toArray,v]) W:=by
 rw[results_cell_tmp h,j,g];have hi:(prog.info? 123).map (·.size)=some r.length:=by rw[d];kernel_rfl
 have:=run_loadVar_mid (P:=prog) W b 0 123 r _ i underlying123 rfl hi;show ((loadVar 123 ⟨b,0,none⟩).run prog W).andThen _=_;rw[this];rfl
theorem y9s (w:World) (c:Array Value) (t:TypeId):(w.alloc (.cells c t)).rangeAt w.heap.size 0 c.toList:=by
 intro j v d;rw[cell_of_row _ _ (0+j) c t (0,0) (heap_alloc_last w _)];rw[Nat.zero_add];rw[Array.getElem?_toList] at d;exact d
theorem x2v (k:Int) (w:World) (c:k<1\/3<k):Calls prog 97 #[.int .i64 k] w (OfEnd ring0 false w):=by
 have hi:(prog.info? 123).map (·.size)=some ring0.size:=by kernel_rfl
 have g:ring0.all (·.oneCell')=true:=by decide +kernel
 have d:=qh hi;clear hi;have h:=qh g;clear g
 rcases c with c|c
 ·go_enter func97,ntmps97
  go_wp2_with (refine z4z rfl 123 (.tmp 2) (.tmp 10) rfl _ ring0 rfl rfl d.out rfl h.out ?_)
  exact bodyPost_ret (z6t rfl _ _ w.heap.size ring0.toList (.bool false) rfl rfl rfl (y9s w ring0 _)) rfl ⟨rfl,blr.alloc nlr _⟩
 have i:decide (k<1)=false:=by rw[decide_eq_false_iff_not];omega
 go_enter func97,ntmps97
 go_wp2_with (refine z4z rfl 123 (.tmp 2) (.tmp 10) rfl _ ring0 rfl rfl d.out rfl h.out ?_)
 exact bodyPost_ret (z6t rfl _ _ w.heap.size ring0.toList (.bool false) rfl rfl rfl (y9s w ring0 _)) rfl ⟨rfl,blr.alloc nlr _⟩
end
section
open Go.RowKit
theorem z7r {B b:Nat} {a:World}:∀ {w:World},Below B a w->B<=b->∀ (vs:List Value) (o:Nat),Below B a (w.setCells b o vs)
 | _,h,_,[],_=>h
 | _,h,hB,v::vs,o=>z7r (h.setCell (p:=⟨b,o,none⟩) hB v) hB vs (o+1)
theorem v1f (k:Int) (o R:Array Value) (w:World) (C:1<=k) (H:k<=3) (d:R.size=8) (u:R.all (·.oneCell')=true) (p:∀ wx,Calls prog 134 #[] wx fun e w'=>e=.returned (.agg o)/\Below wx.heap.size wx w')
  (I:∀ w,(Instr.index 150 (.agg o) (.int .i64 k)).run prog w=.ok (.agg R) w):Calls prog 97 #[.int .i64 k] w (OfEnd R true w):=by
 have hi:(prog.info? 123).map (·.size)=some R.size:=by rw[d];kernel_rfl
 have A:=qh hi;clear hi;have G:=qh u;clear u;have D:=qh p;clear p;have z:=qh d;clear d;have E:decide (k<1)=false:=by rw[decide_eq_false_iff_not];omega
 have F:decide (3<k)=false:=by rw[decide_eq_false_iff_not];omega
 have j:Below w.heap.size w (w.alloc (.cells ring0 123)):=blr.alloc nlr _;have g:=qh j;clear j
 go_enter func97,ntmps97
 go_wp2_with fail
 refine(D.out _).mono ?_;rintro e B ⟨rfl,l⟩;have h:=qh l;clear l;have m:=there8 rfl h.out;rw[<- z.out] at m;have s:=qh m;clear m
 go_wp2_with (refine wpList_store_mid rfl 123 (.tmp 2) (.tmp 13) rfl w.heap.size 0 R rfl rfl s.out A.out G.out ?_)
 have i:=World.rangeAt_setCells_same B w.heap.size 0 R.toList (by rw[Array.length_toList];exact s.out);have c:=z6t (fn:=f97) rfl #[.int .i64 k,undef,.pointer (some ⟨w.heap.size,0,none⟩),.bool true,.int .i64 k,.bool false,.bool false,.int .i64 k,.bool false,.bool false,undef,.agg o,.int .i64 k,.agg R] _ w.heap.size R.toList (.bool true) rfl rfl (by rw[Array.length_toList];exact z.out) i;rw[Array.toArray_toList] at c;exact bodyPost_ret c rfl ⟨rfl,z7r (g.out.trans (h.out.mono g.out.size)) nlr _ _⟩
theorem v9f (w:World):(Instr.index 150 (.agg z7d) (.int .i64 1)).run prog w=.ok (.agg ring1) w:=by kernel_rfl
theorem of_1 (w:World):Calls prog 97 #[.int .i64 1] w (OfEnd ring1 true w) :=
 v1f 1 z7d ring1 w (by decide) (by decide) rfl (by decide +kernel) y4a v9f
theorem u0x (w:World):(Instr.index 150 (.agg z7d) (.int .i64 2)).run prog w=.ok (.agg ring2) w:=by kernel_rfl
theorem of_2 (w:World):Calls prog 97 #[.int .i64 2] w (OfEnd ring2 true w) :=
 v1f 2 z7d ring2 w (by decide) (by decide) rfl (by decide +kernel) y4a u0x
theorem u1v (w:World):(Instr.index 150 (.agg z7d) (.int .i64 3)).run prog w=.ok (.agg ring3) w:=by kernel_rfl
theorem of_3 (w:World):Calls prog 97 #[.int .i64 3] w (OfEnd ring3 true w) :=
 v1f 3 z7d ring3 w (by decide) (by decide) rfl (by decide +kernel) y4a u1v
end
section
open Go.RowKit
theorem z2u:infS.toList=[105,110,102]:=by rw[Lib.toList_data];rfl
theorem z5n:lowS.toList=[45,105,110,102]:=by rw[Lib.toList_data];rfl
theorem z8i {q:Rat} (h:fitQ q):((txt q).toList==[105,110,102])=false:=by
 refine z4j (l:=[105,110,102]) (fun e=>?_);have:=z2h h;rw[e] at this;have c:=y7g;unfold infS at c;rw[show str [105,110,102]=(⟨#[105,110,102]⟩:ByteArray) from rfl,c] at this;simp at this
theorem y5x {q:Rat} (h:fitQ q):((txt q).toList==[45,105,110,102])=false:=by
 refine z4j (l:=[45,105,110,102]) (fun e=>?_);have:=z2h h;rw[e] at this;have c:=y3x;unfold lowS at c;rw[show str [45,105,110,102]=(⟨#[45,105,110,102]⟩:ByteArray) from rfl,c] at this;simp at this
theorem v0s {x y:Rat} (c:fitQ x) (d:fitQ y):y3h (txt x) (txt y)=cmpQ x y:=by unfold y3h;rw[z2h c,z2h d]
theorem z4r (v u:V) (w:World) (A:fitV v) (p:fitV u) (S:Tab w):Calls prog 184 #[.string (vtxt v),.string (vtxt u)] w (IntEnd (cmpV v u) w):=by
 have I:∀ (a b:ByteArray) (z:Int) (j:z=0/\a=b\/a≠b) (c:a≠b->a≠infS->a≠lowS->b≠infS->b≠lowS->Calls prog 195 #[.string a,.string b] w (IntEnd z w))
   (o:a≠b->((a=lowS\/b=infS)/\z=-1)\/(a≠lowS/\b≠infS/\(b=lowS\/a=infS)/\z=1)\/(a≠lowS/\b≠infS/\b≠lowS/\a≠infS)),
   Calls prog 184 #[.string a,.string b] w (IntEnd z w):=by
  intro a b z j c o
  rcases j with ⟨rfl,rfl⟩|j
  ·clear c o
   go_enter func184,ntmps184
   go_wp2;go_ret;exact⟨rfl,blr⟩
  have U:(a.toList==b.toList)=false:=by rw[beq_eq_false_iff_ne];exact v2b j
  have O:∀ s:ByteArray,s≠lowS->(s.toList==[45,105,110,102])=false:=fun s h=>z4j (l:=[45,105,110,102]) h;have N:∀ s:ByteArray,s≠infS->(s.toList==[105,110,102])=false:=fun s h=>z4j (l:=[105,110,102]) h;have D:=qh O;clear O;have J:=qh N;clear N
  rcases o j with ⟨d,rfl⟩|⟨d,m,k,rfl⟩|⟨d,m,k,B⟩
  ·clear c o;by_cases g:a=lowS
   ·have G:(a.toList==[45,105,110,102])=true:=by rw[g,z5n];rfl
    clear j d g
    go_enter func184,ntmps184
    go_wp2;go_ret;exact⟨rfl,blr⟩
   have G:=D.out a g;have P:(b.toList==[105,110,102])=true:=by rw[d.resolve_left g,z2u];rfl
   clear j d g
   go_enter func184,ntmps184
   go_wp2;go_ret;exact⟨rfl,blr⟩
  ·clear c o;have G:=D.out a d;have P:=J.out b m;by_cases i:b=lowS
   ·have Q:(b.toList==[45,105,110,102])=true:=by rw[i,z5n];rfl
    cases R:(a.toList==[105,110,102])
    all_goals
     clear j d m k i
     go_enter func184,ntmps184
     go_wp2;go_ret;exact⟨rfl,blr⟩
   have Q:=D.out b i;have R:(a.toList==[105,110,102])=true:=by rw[k.resolve_left i,z2u];rfl
   clear j d m k i
   go_enter func184,ntmps184
   go_wp2;go_ret;exact⟨rfl,blr⟩
  have G:=D.out a d;have P:=J.out b m;have Q:=D.out b k;have R:=J.out a B;have C:=qh (c j B d m k);clear c o j d m k B
  go_enter func184,ntmps184
  go_wp2_with fail
  refine nxa C.out fun W T=>?_;go_wp2;go_ret;exact⟨rfl,T.out⟩
 refine I _ _ _ ?_ ?_ ?_
 ·by_cases h:v=u
  ·subst h;exact .inl ⟨(y5b v v).2 rfl,rfl⟩
  exact .inr (fun e=>h (x3z A p e))
 ·intro _ d m k B;cases v with
  | inf=>exact absurd rfl d
  | low=>exact absurd rfl m
  | fin x =>
   cases u with
   | inf=>exact absurd rfl k
   | low=>exact absurd rfl B
   | fin y =>
    have L:=y7h (txt x) (txt y) w (by have:=z2w A;omega) (by have:=z2w p;omega) S;rw[v0s A p] at L;exact L
 intro h;have E:infS≠lowS:=by decide
 have K:∀ q:Rat,fitQ q->txt q≠infS:=fun q H e=>by have:=z8i H;rw[e,z2u] at this;simp at this
 have F:∀ q:Rat,fitQ q->txt q≠lowS:=fun q H e=>by have:=y5x H;rw[e,z5n] at this;simp at this
 cases v with
 | inf =>
  cases u with
  | inf=>exact absurd rfl h
  | low=>exact .inr (.inl ⟨E,Ne.symm E,.inl rfl,rfl⟩)
  | fin y=>exact .inr (.inl ⟨E,K y p,.inr rfl,rfl⟩)
 | low =>
  cases u with
  | inf=>exact .inl ⟨.inl rfl,rfl⟩
  | low=>exact absurd rfl h
  | fin y=>exact .inl ⟨.inl rfl,rfl⟩
 | fin x =>
  cases u with
  | inf=>exact .inl ⟨.inr rfl,rfl⟩
  | low=>exact .inr (.inl ⟨F x A,Ne.symm E,.inl rfl,rfl⟩)
  | fin y=>exact .inr (.inr ⟨F x A,K y p,F y p,K x A⟩)
end
end Go.Proofs.YteappjogmnogcaaGreatDoor
