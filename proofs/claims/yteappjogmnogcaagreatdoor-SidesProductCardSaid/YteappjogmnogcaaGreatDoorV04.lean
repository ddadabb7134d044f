/- Parts of a proof: MP RatE RatC RatF RatG MS1. -/
import Derived.Test.YteappjogmnogcaaGreatDoorV03
import Derived.Test.YteappjogmnogcaaGreatDoorV00
import Derived.Laws.EntriesVeiled
import Derived.Deep.WholeRow
import Derived.Deep.MidRow
import Derived.Laws.ResultCell
namespace Go.Proofs.YteappjogmnogcaaGreatDoor
set_option maxRecDepth 100000
set_option linter.unusedSimpArgs false
set_option linter.unusedVariables false
set_option linter.unusedSectionVars false
set_option maxHeartbeats 16000000
open Go Tryz
section
open Go.RowKit
theorem z0u {fn:Func} {p u:Tmp} (h:fn.results=#[.cell p 189,.tmp u]) (c:Array Value) (W:World) (n:Nat) (r:Bool) (x y:ByteArray) (o:Bool)
  (j:c.getD p undef=.pointer (some ⟨n,0,none⟩)) (i:c.getD u undef=.bool o) (c0:W.cell? ⟨n,0,none⟩=some (.bool r)) (c1:W.cell? ⟨n,1,none⟩=some (.string x)) (c2:W.cell? ⟨n,2,none⟩=some (.string y)) :
  (results fn c).run prog W=.ok (.tuple #[.agg #[.bool r,.string x,.string y],.bool o]) W:=by
 have g:c[p]?.getD undef=.pointer (some ⟨n,0,none⟩):=by rw[<- j];simp
 have d:c[u]?.getD undef=.bool o:=by rw[<- i];simp
 simp only[results,h];simp[g,d,go_sem,c0,c1,c2]
theorem size49:(⟨#[49]⟩:ByteArray).size=1:=rfl
def NoNum:Value:=nvS false ⟨#[]⟩ ⟨#[]⟩
def okB (neg frac vn vd:Bool) (n d g:ByteArray):Bool:=vn&&vd&&decide (n.size<=400)&&decide (d.size<=400)&&!(neg&&(n.toList==[48]))&&!(frac&&(d.toList==[48]||d.toList==[49]))&&(g.toList==[49])
def PairQ (neg:Bool) (n d:ByteArray) (ok:Bool) (w:World) (e:Ending) (w':World):Prop:=e=.returned (.tuple #[if ok then nvS neg n d else NoNum,.bool ok])/\Below w.heap.size w w'
theorem v3w (s r n X d g:ByteArray) (neg D I J:Bool) (w:World)
  (F:d=if D then X else ⟨#[49]⟩) (hn:n.size<=9223372036854775807) (K:d.size<=9223372036854775807)
  (c1:∀ wx,Below w.heap.size w wx->Calls prog 210 #[.string s,.string ⟨#[45]⟩] wx fun e w'=>e=.returned (.tuple #[.string r,.bool neg])/\wx=w')
  (c2:∀ wx,Below w.heap.size w wx->Calls prog 211 #[.string r,.string ⟨#[47]⟩] wx fun e w'=>e=.returned (.tuple #[.string n,.string X,.bool D])/\Below wx.heap.size wx w')
  (c3:∀ wx,Calls prog 204 #[.string n] wx fun e w'=>e=.returned (.bool I)/\wx=w')
  (c4:∀ wx,Calls prog 204 #[.string d] wx fun e w'=>e=.returned (.bool J)/\wx=w')
  (c5:I=true->J=true->∀ wx,Below w.heap.size w wx->Calls prog 208 #[.string n,.string d] wx (StrZ g wx)) :
  Calls prog 191 #[.string s] w (PairQ neg n d (okB neg D I J n d g) w):=by
 have C1:=qh c1;clear c1;have C2:=qh c2;clear c2;have W:=qh c3;clear c3;have Y:=qh c4;clear c4;have O:=qh c5;clear c5;have L:Below w.heap.size w (w.alloc (.cells #[.bool false,.string ⟨#[]⟩,.string ⟨#[]⟩] 189)):=blr.alloc nlr _;have E:=qh L;clear L;have HN:=qh hn;clear hn;have Q:=qh K;clear K;have N:=qh F;clear F;unfold PairQ NoNum nvS;obtain⟨z,H⟩:∃ b,b=okB neg D I J n d g:=⟨_,rfl⟩;rw[<- H];have h:=qh H;clear H
 go_enter func191,ntmps191
 go_wp2_with fail
 refine(C1.out _ E.out).mono ?_;rintro e w1 ⟨rfl,rfl⟩
 go_wp2_with fail
 refine(C2.out _ E.out).mono ?_;rintro e w2 ⟨rfl,G⟩;have i:=qh G;have c:=qh (E.out.trans (G.mono E.out.size));clear G;cases D
 ·have F:=N.out;simp only[Bool.false_eq_true,if_false] at F;subst F;clear Q N
  go_wp2_with fail
  refine(W.out _).mono ?_;rintro e w' ⟨rfl,rfl⟩;cases I
  ·-- no numerator
   have hf:z=false:=by rw[h.out];first|(simp[okB, *];done)|simp[okB, *,size49]
   subst hf;obtain⟨j,l,k,A,C,B,m⟩:=res3 i.out
   go_wp2_with fail
   obtain⟨s0,s1,s2⟩:=set3 (a':=.bool false) (b':=.string ⟨#[]⟩) (c':=.string ⟨#[]⟩) j l k;exact bodyPost_ret (z0u rfl _ _ w.heap.size false ⟨#[]⟩ ⟨#[]⟩ false rfl rfl s0 s1 s2) rfl ⟨rfl,((c.out.setCell nlr _).setCell nlr _).setCell nlr _⟩
  go_wp2_with fail
  refine(Y.out _).mono ?_;rintro e w' ⟨rfl,rfl⟩;cases J
  ·-- no denominator
   have hf:z=false:=by rw[h.out];first|(simp[okB, *];done)|simp[okB, *,size49]
   subst hf;obtain⟨j,l,k,A,C,B,m⟩:=res3 i.out
   go_wp2_with fail
   obtain⟨s0,s1,s2⟩:=set3 (a':=.bool false) (b':=.string ⟨#[]⟩) (c':=.string ⟨#[]⟩) j l k;exact bodyPost_ret (z0u rfl _ _ w.heap.size false ⟨#[]⟩ ⟨#[]⟩ false rfl rfl s0 s1 s2) rfl ⟨rfl,((c.out.setCell nlr _).setCell nlr _).setCell nlr _⟩
  by_cases h1:n.size<=400
  ·have P:(n.size:Int)<=400:=by omega
   cases neg
   ·-- no sign
    go_wp2_with fail
    refine(O.out (by trivial) (by trivial) _ c.out).mono ?_;rintro e U ⟨rfl,o⟩;have u:=qh (i.out.trans (o.mono i.out.size));have p:=qh (c.out.trans (o.mono c.out.size));clear o;cases R:(g.toList==[49])
    ·-- no
     have hf:z=false:=by rw[h.out];first|(simp[okB, *];done)|simp[okB, *,size49]
     subst hf;obtain⟨j,l,k,A,C,B,m⟩:=res3 u.out
     go_wp2_with fail
     obtain⟨s0,s1,s2⟩:=set3 (a':=.bool false) (b':=.string ⟨#[]⟩) (c':=.string ⟨#[]⟩) j l k;exact bodyPost_ret (z0u rfl _ _ w.heap.size false ⟨#[]⟩ ⟨#[]⟩ false rfl rfl s0 s1 s2) rfl ⟨rfl,((p.out.setCell nlr _).setCell nlr _).setCell nlr _⟩
    have hf:z=true:=by rw[h.out];first|(simp[okB, *];done)|simp[okB, *,size49]
    subst hf;obtain⟨j,l,k,A,C,B,m⟩:=res3 u.out
    go_wp2_with fail
    obtain⟨s0,s1,s2⟩:=set3 (a':=.bool false) (b':=.string n) (c':=.string ⟨#[49]⟩) j l k;exact bodyPost_ret (z0u rfl _ _ w.heap.size false n ⟨#[49]⟩ true rfl rfl s0 s1 s2) rfl ⟨rfl,((p.out.setCell nlr _).setCell nlr _).setCell nlr _⟩
   cases Z:(n.toList==[48])
   ·-- a sign
    go_wp2_with fail
    refine(O.out (by trivial) (by trivial) _ c.out).mono ?_;rintro e U ⟨rfl,o⟩;have u:=qh (i.out.trans (o.mono i.out.size));have p:=qh (c.out.trans (o.mono c.out.size));clear o;cases R:(g.toList==[49])
    ·-- no
     have hf:z=false:=by rw[h.out];first|(simp[okB, *];done)|simp[okB, *,size49]
     subst hf;obtain⟨j,l,k,A,C,B,m⟩:=res3 u.out
     go_wp2_with fail
     obtain⟨s0,s1,s2⟩:=set3 (a':=.bool false) (b':=.string ⟨#[]⟩) (c':=.string ⟨#[]⟩) j l k;exact bodyPost_ret (z0u rfl _ _ w.heap.size false ⟨#[]⟩ ⟨#[]⟩ false rfl rfl s0 s1 s2) rfl ⟨rfl,((p.out.setCell nlr _).setCell nlr _).setCell nlr _⟩
    have hf:z=true:=by rw[h.out];first|(simp[okB, *];done)|simp[okB, *,size49]
    subst hf;obtain⟨j,l,k,A,C,B,m⟩:=res3 u.out
    go_wp2_with fail
    obtain⟨s0,s1,s2⟩:=set3 (a':=.bool true) (b':=.string n) (c':=.string ⟨#[49]⟩) j l k;exact bodyPost_ret (z0u rfl _ _ w.heap.size true n ⟨#[49]⟩ true rfl rfl s0 s1 s2) rfl ⟨rfl,((p.out.setCell nlr _).setCell nlr _).setCell nlr _⟩
   have hf:z=false:=by rw[h.out];first|(simp[okB, *];done)|simp[okB, *,size49]
   subst hf;obtain⟨j,l,k,A,C,B,m⟩:=res3 i.out
   go_wp2_with fail
   obtain⟨s0,s1,s2⟩:=set3 (a':=.bool false) (b':=.string ⟨#[]⟩) (c':=.string ⟨#[]⟩) j l k;exact bodyPost_ret (z0u rfl _ _ w.heap.size false ⟨#[]⟩ ⟨#[]⟩ false rfl rfl s0 s1 s2) rfl ⟨rfl,((c.out.setCell nlr _).setCell nlr _).setCell nlr _⟩
  have P:(400:Int)<(n.size:Int):=by omega
  have hf:z=false:=by rw[h.out];first|(simp[okB, *];done)|simp[okB, *,size49]
  subst hf;obtain⟨j,l,k,A,C,B,m⟩:=res3 i.out
  go_wp2_with fail
  obtain⟨s0,s1,s2⟩:=set3 (a':=.bool false) (b':=.string ⟨#[]⟩) (c':=.string ⟨#[]⟩) j l k;exact bodyPost_ret (z0u rfl _ _ w.heap.size false ⟨#[]⟩ ⟨#[]⟩ false rfl rfl s0 s1 s2) rfl ⟨rfl,((c.out.setCell nlr _).setCell nlr _).setCell nlr _⟩
 have F:=N.out;simp only[if_true] at F;subst F;clear N
 go_wp2_with fail
 refine(W.out _).mono ?_;rintro e w' ⟨rfl,rfl⟩;cases I
 ·-- no numerator
  have hf:z=false:=by rw[h.out];first|(simp[okB, *];done)|simp[okB, *,size49]
  subst hf;obtain⟨j,l,k,A,C,B,m⟩:=res3 i.out
  go_wp2_with fail
  obtain⟨s0,s1,s2⟩:=set3 (a':=.bool false) (b':=.string ⟨#[]⟩) (c':=.string ⟨#[]⟩) j l k;exact bodyPost_ret (z0u rfl _ _ w.heap.size false ⟨#[]⟩ ⟨#[]⟩ false rfl rfl s0 s1 s2) rfl ⟨rfl,((c.out.setCell nlr _).setCell nlr _).setCell nlr _⟩
 go_wp2_with fail
 refine(Y.out _).mono ?_;rintro e w' ⟨rfl,rfl⟩;cases J
 ·-- no denominator
  have hf:z=false:=by rw[h.out];first|(simp[okB, *];done)|simp[okB, *,size49]
  subst hf;obtain⟨j,l,k,A,C,B,m⟩:=res3 i.out
  go_wp2_with fail
  obtain⟨s0,s1,s2⟩:=set3 (a':=.bool false) (b':=.string ⟨#[]⟩) (c':=.string ⟨#[]⟩) j l k;exact bodyPost_ret (z0u rfl _ _ w.heap.size false ⟨#[]⟩ ⟨#[]⟩ false rfl rfl s0 s1 s2) rfl ⟨rfl,((c.out.setCell nlr _).setCell nlr _).setCell nlr _⟩
 by_cases h1:n.size<=400
 ·have P:(n.size:Int)<=400:=by omega
  by_cases h2:d.size<=400
  ·have g2:(d.size:Int)<=400:=by omega
   cases neg
   ·-- no sign
    cases T:(d.toList==[48])
    ·cases S:(d.toList==[49])
     ·-- a denominator of its own
      go_wp2_with fail
      refine(O.out (by trivial) (by trivial) _ c.out).mono ?_;rintro e U ⟨rfl,o⟩;have u:=qh (i.out.trans (o.mono i.out.size));have p:=qh (c.out.trans (o.mono c.out.size));clear o;cases R:(g.toList==[49])
      ·-- no
       have hf:z=false:=by rw[h.out];first|(simp[okB, *];done)|simp[okB, *,size49]
       subst hf;obtain⟨j,l,k,A,C,B,m⟩:=res3 u.out
       go_wp2_with fail
       obtain⟨s0,s1,s2⟩:=set3 (a':=.bool false) (b':=.string ⟨#[]⟩) (c':=.string ⟨#[]⟩) j l k;exact bodyPost_ret (z0u rfl _ _ w.heap.size false ⟨#[]⟩ ⟨#[]⟩ false rfl rfl s0 s1 s2) rfl ⟨rfl,((p.out.setCell nlr _).setCell nlr _).setCell nlr _⟩
      have hf:z=true:=by rw[h.out];first|(simp[okB, *];done)|simp[okB, *,size49]
      subst hf;obtain⟨j,l,k,A,C,B,m⟩:=res3 u.out
      go_wp2_with fail
      obtain⟨s0,s1,s2⟩:=set3 (a':=.bool false) (b':=.string n) (c':=.string d) j l k;exact bodyPost_ret (z0u rfl _ _ w.heap.size false n d true rfl rfl s0 s1 s2) rfl ⟨rfl,((p.out.setCell nlr _).setCell nlr _).setCell nlr _⟩
     have hf:z=false:=by rw[h.out];first|(simp[okB, *];done)|simp[okB, *,size49]
     subst hf;obtain⟨j,l,k,A,C,B,m⟩:=res3 i.out
     go_wp2_with fail
     obtain⟨s0,s1,s2⟩:=set3 (a':=.bool false) (b':=.string ⟨#[]⟩) (c':=.string ⟨#[]⟩) j l k;exact bodyPost_ret (z0u rfl _ _ w.heap.size false ⟨#[]⟩ ⟨#[]⟩ false rfl rfl s0 s1 s2) rfl ⟨rfl,((c.out.setCell nlr _).setCell nlr _).setCell nlr _⟩
    have hf:z=false:=by rw[h.out];first|(simp[okB, *];done)|simp[okB, *,size49]
    subst hf;obtain⟨j,l,k,A,C,B,m⟩:=res3 i.out
    go_wp2_with fail
    obtain⟨s0,s1,s2⟩:=set3 (a':=.bool false) (b':=.string ⟨#[]⟩) (c':=.string ⟨#[]⟩) j l k;exact bodyPost_ret (z0u rfl _ _ w.heap.size false ⟨#[]⟩ ⟨#[]⟩ false rfl rfl s0 s1 s2) rfl ⟨rfl,((c.out.setCell nlr _).setCell nlr _).setCell nlr _⟩
   cases Z:(n.toList==[48])
   ·-- a sign
    cases T:(d.toList==[48])
    ·cases S:(d.toList==[49])
     ·-- a denominator of its own
      go_wp2_with fail
      refine(O.out (by trivial) (by trivial) _ c.out).mono ?_;rintro e U ⟨rfl,o⟩;have u:=qh (i.out.trans (o.mono i.out.size));have p:=qh (c.out.trans (o.mono c.out.size));clear o;cases R:(g.toList==[49])
      ·-- no
       have hf:z=false:=by rw[h.out];first|(simp[okB, *];done)|simp[okB, *,size49]
       subst hf;obtain⟨j,l,k,A,C,B,m⟩:=res3 u.out
       go_wp2_with fail
       obtain⟨s0,s1,s2⟩:=set3 (a':=.bool false) (b':=.string ⟨#[]⟩) (c':=.string ⟨#[]⟩) j l k;exact bodyPost_ret (z0u rfl _ _ w.heap.size false ⟨#[]⟩ ⟨#[]⟩ false rfl rfl s0 s1 s2) rfl ⟨rfl,((p.out.setCell nlr _).setCell nlr _).setCell nlr _⟩
      have hf:z=true:=by rw[h.out];first|(simp[okB, *];done)|simp[okB, *,size49]
      subst hf;obtain⟨j,l,k,A,C,B,m⟩:=res3 u.out
      go_wp2_with fail
      obtain⟨s0,s1,s2⟩:=set3 (a':=.bool true) (b':=.string n) (c':=.string d) j l k;exact bodyPost_ret (z0u rfl _ _ w.heap.size true n d true rfl rfl s0 s1 s2) rfl ⟨rfl,((p.out.setCell nlr _).setCell nlr _).setCell nlr _⟩
     have hf:z=false:=by rw[h.out];first|(simp[okB, *];done)|simp[okB, *,size49]
     subst hf;obtain⟨j,l,k,A,C,B,m⟩:=res3 i.out
     go_wp2_with fail
     obtain⟨s0,s1,s2⟩:=set3 (a':=.bool false) (b':=.string ⟨#[]⟩) (c':=.string ⟨#[]⟩) j l k;exact bodyPost_ret (z0u rfl _ _ w.heap.size false ⟨#[]⟩ ⟨#[]⟩ false rfl rfl s0 s1 s2) rfl ⟨rfl,((c.out.setCell nlr _).setCell nlr _).setCell nlr _⟩
    have hf:z=false:=by rw[h.out];first|(simp[okB, *];done)|simp[okB, *,size49]
    subst hf;obtain⟨j,l,k,A,C,B,m⟩:=res3 i.out
    go_wp2_with fail
    obtain⟨s0,s1,s2⟩:=set3 (a':=.bool false) (b':=.string ⟨#[]⟩) (c':=.string ⟨#[]⟩) j l k;exact bodyPost_ret (z0u rfl _ _ w.heap.size false ⟨#[]⟩ ⟨#[]⟩ false rfl rfl s0 s1 s2) rfl ⟨rfl,((c.out.setCell nlr _).setCell nlr _).setCell nlr _⟩
   have hf:z=false:=by rw[h.out];first|(simp[okB, *];done)|simp[okB, *,size49]
   subst hf;obtain⟨j,l,k,A,C,B,m⟩:=res3 i.out
   go_wp2_with fail
   obtain⟨s0,s1,s2⟩:=set3 (a':=.bool false) (b':=.string ⟨#[]⟩) (c':=.string ⟨#[]⟩) j l k;exact bodyPost_ret (z0u rfl _ _ w.heap.size false ⟨#[]⟩ ⟨#[]⟩ false rfl rfl s0 s1 s2) rfl ⟨rfl,((c.out.setCell nlr _).setCell nlr _).setCell nlr _⟩
  have g2:(400:Int)<(d.size:Int):=by omega
  have hf:z=false:=by rw[h.out];first|(simp[okB, *];done)|simp[okB, *,size49]
  subst hf;obtain⟨j,l,k,A,C,B,m⟩:=res3 i.out
  go_wp2_with fail
  obtain⟨s0,s1,s2⟩:=set3 (a':=.bool false) (b':=.string ⟨#[]⟩) (c':=.string ⟨#[]⟩) j l k;exact bodyPost_ret (z0u rfl _ _ w.heap.size false ⟨#[]⟩ ⟨#[]⟩ false rfl rfl s0 s1 s2) rfl ⟨rfl,((c.out.setCell nlr _).setCell nlr _).setCell nlr _⟩
 have P:(400:Int)<(n.size:Int):=by omega
 have hf:z=false:=by rw[h.out];first|(simp[okB, *];done)|simp[okB, *,size49]
 subst hf;obtain⟨j,l,k,A,C,B,m⟩:=res3 i.out
 go_wp2_with fail
 obtain⟨s0,s1,s2⟩:=set3 (a':=.bool false) (b':=.string ⟨#[]⟩) (c':=.string ⟨#[]⟩) j l k;exact bodyPost_ret (z0u rfl _ _ w.heap.size false ⟨#[]⟩ ⟨#[]⟩ false rfl rfl s0 s1 s2) rfl ⟨rfl,((c.out.setCell nlr _).setCell nlr _).setCell nlr _⟩
end
section
open Go.RowKit
theorem str_eq {l r:List UInt8}:((str l).toList==r)=decide (l=r):=by
 rw[Lib.toList_data];show (bts (str l)==r)=_;rw[z2v,Bool.eq_iff_iff];simp
def prsV (o:Option Rat):Value:=match o with|some q=>nv q|none=>NoNum
theorem y7p (o:Option Rat):∃ r x y,prsV o=.agg #[.bool r,.string x,.string y]:=by cases o<;>exact⟨_,_,_,rfl⟩
theorem z7u (s:ByteArray) (w:World) (J:s.size<=9223372036854775807) (H:Tab w) :
  Calls prog 191 #[.string s] w fun e w' =>
   e=.returned (.tuple #[prsV (prs s),.bool (prs s).isSome])/\Below w.heap.size w w':=by
 have g:(z1a (bts s)).length<=s.size:=by
  unfold z1a;split
  ·rw[List.length_tail,z1q];omega
  rw[z1q];omega
 have F:(upTo (z1a (bts s))).length<=s.size:=Nat.le_trans (List.takeWhile_sublist _).length_le g;have E:(z6t (z1a (bts s))).length<=s.size:=by
  unfold z6t;rw[List.length_tail];have:=(List.dropWhile_sublist (· != 47) (l:=z1a (bts s))).length_le;omega
 have D:∀ c,Below w.heap.size w c->Tab c:=fun c h=>H.below h nlr;have i:str (denL (z1a (bts s)))=if hasS (z1a (bts s)) then str (if hasS (z1a (bts s)) then z6t (z1a (bts s)) else []) else ⟨#[49]⟩:=by
  unfold denL;cases hasS (z1a (bts s))<;>rfl
 have j:(str (denL (z1a (bts s)))).size<=9223372036854775807:=by
  rw[z1i];unfold denL;split
  ·omega
  show 1<=_;omega
 have G:=v3w s (str (z1a (bts s))) (str (upTo (z1a (bts s)))) (str (if hasS (z1a (bts s)) then z6t (z1a (bts s)) else [])) (str (denL (z1a (bts s))))
  (str (dec (Nat.gcd (num (upTo (z1a (bts s)))) (num (denL (z1a (bts s))))))) (z6v (bts s)) (hasS (z1a (bts s))) (z1u (upTo (z1a (bts s)))) (z1u (denL (z1a (bts s)))) w
  i (by rw[z1i];omega) j (fun c _=>v6s s c)
  (fun c _=>by
   have:=u0n (str (z1a (bts s))) c (by rw[z1i];omega);rw[z2v] at this;exact this)
  (fun c=>by
   have:=z4i (str (upTo (z1a (bts s)))) c (by rw[z1i];unfold maxLen;omega);unfold vld at this;rw[z2v] at this;exact this)
  (fun c=>by
   have:=z4i (str (denL (z1a (bts s)))) c (by unfold maxLen;omega);unfold vld at this;rw[z2v] at this;exact this)
  (fun u p c h=>by
   have A:=z9q u;have z:=z9q p;have B:fits (num (upTo (z1a (bts s)))):=by unfold fits;rw[A];exact(z4s u).2.1
   have I:fits (num (denL (z1a (bts s)))):=by unfold fits;rw[z];exact(z4s p).2.1
   have:=v3p _ _ c B I (D c h);rw[A,z] at this;exact this)
 refine G.mono ?_;rintro e w' ⟨rfl,hb⟩;refine⟨?_,hb⟩;have m:okB (z6v (bts s)) (hasS (z1a (bts s))) (z1u (upTo (z1a (bts s)))) (z1u (denL (z1a (bts s)))) (str (upTo (z1a (bts s)))) (str (denL (z1a (bts s)))) (str (dec (Nat.gcd (num (upTo (z1a (bts s)))) (num (denL (z1a (bts s)))))))
   = okP (z6v (bts s)) (upTo (z1a (bts s))) (denL (z1a (bts s))) (hasS (z1a (bts s))):=by
  unfold okB okP;rw[str_eq,str_eq,str_eq,str_eq,z1i,z1i];have C:∀ n,(decide (dec n=[49]))=decide (n=1):=fun n=>by
   rw[decide_eq_decide];exact⟨fun h=>z7x (h.trans z5s.symm),fun h=>by rw[h,z5s]⟩
  rw[C];have hb:∀ l r:List UInt8,(l==r)=decide (l=r):=fun l r=>by rw[Bool.eq_iff_iff];simp
  simp only[hb]
 rw[m];cases o:okP (z6v (bts s)) (upTo (z1a (bts s))) (denL (z1a (bts s))) (hasS (z1a (bts s)))
 ·have d:prs s=none:=by unfold prs prsL;rw[o];rfl
  rw[d];rfl
 have d:prs s=some (mkRat (sg (z6v (bts s)) (num (upTo (z1a (bts s))))) (num (denL (z1a (bts s))))):=by unfold prs prsL;rw[o];rfl
 have k:=(x1p d).2;rw[d];simp only[prsV,nv,k.sign,k.top,k.bot];rfl
end
section
open Go.RowKit
theorem v3s (g:FuncId) (p q:Bool) (u z s A:ByteArray) (E:Ending) (o k m:Nat) (w:World) (G:(∃ r x y,E=.returned (.agg #[.bool r,.string x,.string y]))\/E=PT)
  (Q:∀ args w,(callFunc g args).run prog w=.ok (.enter g args) w) (I:o<w.heap.size) (R:k<w.heap.size) (N:m<w.heap.size)
  (c0:w.cell? ⟨o,0,none⟩=some (.func (.func g) #[] #[])) (T:w.cell? ⟨k,0,none⟩=some (.bool p)) (P:w.cell? ⟨k,1,none⟩=some (.string u)) (J:w.cell? ⟨k,2,none⟩=some (.string z))
  (L:w.cell? ⟨m,0,none⟩=some (.bool q)) (U:w.cell? ⟨m,1,none⟩=some (.string s)) (O:w.cell? ⟨m,2,none⟩=some (.string A))
  (j:∀ wx,Below w.heap.size w wx->Calls prog g #[nvS p u z,nvS q s A] wx fun e w'=>e=E/\Below wx.heap.size wx w') :
  Calls prog 200 #[.pointer (some ⟨o,0,none⟩),.pointer (some ⟨k,0,none⟩),.pointer (some ⟨m,0,none⟩)] w fun e w'=>e=E/\Below w.heap.size w w':=by
 unfold nvS at j;have i:=qh j;clear j;have l:Below w.heap.size w (w.alloc (.cells #[.bool false,.string ⟨#[]⟩,.string ⟨#[]⟩] 189)):=blr.alloc nlr _;have d:=qh l;clear l
 rcases G with ⟨r,x,y,rfl⟩|rfl
 ·go_enter func200,ntmps200
  go_wp2_with fail
  refine(i.out _ d.out).mono ?_;rintro e C ⟨rfl,c⟩;have h:=qh c;clear c;obtain⟨B,F,D,K,S,W,H⟩:=res3 h.out;obtain⟨s0,s1,s2⟩:=set3 (a':=.bool r) (b':=.string x) (c':=.string y) B F D
  go_wp2_with fail
  exact bodyPost_ret (z3t rfl _ _ w.heap.size r x y rfl s0 s1 s2) rfl ⟨rfl,(((z0a d.out h.out).setCell nlr _).setCell nlr _).setCell nlr _⟩
 unfold PT at i ⊢
 go_enter func200,ntmps200
 go_wp2_with fail
 refine(i.out _ d.out).mono ?_;rintro e C ⟨rfl,c⟩;have h:=qh c;clear c
 go_wp2_with fail
 exact⟨rfl,rfl,z0a d.out h.out⟩
theorem qE (q:Rat):(∃ r x y,(if fitQ q then .returned (nv q) else PT)=Ending.returned (.agg #[.bool r,.string x,.string y]))\/(if fitQ q then .returned (nv q) else PT)=PT:=by
 by_cases h:fitQ q
 ·rw[if_pos h];exact .inl ⟨_,_,_,rfl⟩
 rw[if_neg h];exact .inr rfl
def okR (F:Rat->Rat->Rat) (a b:ByteArray):ByteArray × Nat:=match prs a,prs b with|some x,some y=>limR (F x y)|_,_=>(str [],1)
theorem z5m (g:FuncId) (F:Rat->Rat->Rat) (a b:ByteArray) (w:World) (T:a.size<=9223372036854775807) (hb:b.size<=9223372036854775807) (U:Tab w)
  (W:∀ args w,(callFunc g args).run prog w=.ok (.enter g args) w)
  (A:∀ x y,prs a=some x->prs b=some y->∀ wx,Below w.heap.size w wx->Calls prog g #[nv x,nv y] wx (QEnd (F x y) wx)) :
  Calls prog 185 #[.string a,.string b,.func (.func g) #[] #[]] w (PairEnd (okR F a b) w):=by
 have a1:∀ (fn:Fn) (first cap:Array Value) (w:World),(Instr.makeFunc fn first cap).run prog w=.ok (.func fn first cap) w:=fun _ _ _ _=>rfl
 have Q:∀ wx,Below w.heap.size w wx->Tab wx:=fun wx h=>U.below h nlr;have c1:=fun wx (h:Below w.heap.size w wx)=>z7u a wx T (Q wx h);have c2:=fun wx (h:Below w.heap.size w wx)=>z7u b wx hb (Q wx h);have R:=qh W;clear W;have u:=qh A;clear A;clear Q U T hb;have K:Below w.heap.size w (w.alloc (.cells #[.func (.func g) #[] #[]] 191)):=blr.alloc nlr _;have l:=qh K;clear K;cases C:prs a with
 | none =>
  have D:okR F a b=(str [],1):=by unfold okR;rw[C]
  rw[D];simp only[C,Option.isSome,prsV] at c1;clear D u C;have G:=qh c1;clear c1;generalize (prs b).isSome=o at c2;obtain⟨r,x,y,S⟩:=y7p (prs b);rw[S] at c2;clear S;have H:=qh c2;clear c2;unfold NoNum nvS at G
  go_enter func185,ntmps185
  go_wp2_with fail
  refine(G.out _ l.out).mono ?_;rintro e z ⟨rfl,c⟩;have k:=qh ((z0a l.out c).alloc (Nat.le_trans l.out.size c.size) (.cells #[.bool false,.string ⟨#[]⟩,.string ⟨#[]⟩] 189));clear c
  go_wp2_with fail
  refine(H.out _ k.out).mono ?_;rintro e B ⟨rfl,d⟩;have j:=qh (z0a k.out d);clear d;go_wp2;go_ret2;exact⟨rfl,j.out.alloc j.out.size _⟩
 | some x =>
  simp only[C,Option.isSome,prsV] at c1;have G:=qh c1;clear c1;cases E:prs b with
  | none =>
   have D:okR F a b=(str [],1):=by unfold okR;rw[C,E]
   rw[D];simp only[E,Option.isSome,prsV] at c2;clear D u C E;have H:=qh c2;clear c2;unfold nv nvS at G;unfold NoNum nvS at H
   go_enter func185,ntmps185
   go_wp2_with fail
   refine(G.out _ l.out).mono ?_;rintro e z ⟨rfl,c⟩;have k:=qh ((z0a l.out c).alloc (Nat.le_trans l.out.size c.size) (.cells #[.bool (negQ x),.string (str (dec x.num.natAbs)),.string (str (dec x.den))] 189));clear c
   go_wp2_with fail
   refine(H.out _ k.out).mono ?_;rintro e B ⟨rfl,d⟩;have j:=qh (z0a k.out d);clear d;go_wp2;go_ret2;exact⟨rfl,j.out.alloc j.out.size _⟩
  | some y =>
   have D:okR F a b=limR (F x y):=by unfold okR;rw[C,E]
   rw[D];simp only[E,Option.isSome,prsV] at c2;have A:=fun wx h=>u.out x y C E wx h;clear D u C E;have u:=qh A;clear A;have H:=qh c2;clear c2;unfold nv nvS at G H
   go_enter func185,ntmps185
   go_wp2_with fail
   refine(G.out _ l.out).mono ?_;rintro e z ⟨rfl,c⟩;have N:=qh c;have k:=qh ((z0a l.out c).alloc (Nat.le_trans l.out.size c.size) (.cells #[.bool (negQ x),.string (str (dec x.num.natAbs)),.string (str (dec x.den))] 189));clear c
   go_wp2_with fail
   refine(H.out _ k.out).mono ?_;rintro e B ⟨rfl,d⟩;have J:=qh d;have j:=qh ((z0a k.out d).alloc (Nat.le_trans k.out.size d.size) (.cells #[.bool (negQ y),.string (str (dec y.num.natAbs)),.string (str (dec y.den))] 189));clear d
   go_wp2_with fail
   refine(x1z _ (F x y) _ (fun wx h=>?_)).mono ?_
   ·have z0:=N.out.size;have Z:=J.out.size;have X:=h.size;rw[World.size_alloc] at z0 Z X;have s0:w.heap.size<(w.alloc (.cells #[.func (.func g) #[] #[]] 191)).heap.size:=by rw[World.size_alloc];omega
    have s1:∀ o,z.heap.size<(z.alloc o).heap.size:=fun o=>by rw[World.size_alloc];omega
    have s2:∀ o,B.heap.size<(B.alloc o).heap.size:=fun o=>by rw[World.size_alloc];omega
    have I:wx.cell? ⟨w.heap.size,0,none⟩=some (.func (.func g) #[] #[]):=by
     refine(h.cell (p:=⟨w.heap.size,0,none⟩) (by rw[World.size_alloc];show w.heap.size<_;omega)).trans ?_;rw[World.cell?_alloc_past (hn:=by omega)];refine(J.out.cell (p:=⟨w.heap.size,0,none⟩) (by rw[World.size_alloc];show w.heap.size<_;omega)).trans ?_;rw[World.cell?_alloc_past (hn:=by omega)];refine(N.out.cell (p:=⟨w.heap.size,0,none⟩) s0).trans ?_;simp[go_sem]
    have m:∀ (i:Nat) (v:Value),(z.alloc (.cells #[.bool (negQ x),.string (str (dec x.num.natAbs)),.string (str (dec x.den))] 189)).cell? ⟨z.heap.size,i,none⟩=some v->wx.cell? ⟨z.heap.size,i,none⟩=some v:=by
     intro i v P;refine(h.cell (p:=⟨z.heap.size,i,none⟩) (by rw[World.size_alloc];show z.heap.size<_;omega)).trans ?_;rw[World.cell?_alloc_past (hn:=by omega)];exact(J.out.cell (p:=⟨z.heap.size,i,none⟩) (s1 _)).trans P
    have s:∀ (i:Nat) (v:Value),(B.alloc (.cells #[.bool (negQ y),.string (str (dec y.num.natAbs)),.string (str (dec y.den))] 189)).cell? ⟨B.heap.size,i,none⟩=some v->wx.cell? ⟨B.heap.size,i,none⟩=some v:=by
     intro i v P;exact(h.cell (p:=⟨B.heap.size,i,none⟩) (s2 _)).trans P
    exact v3s g _ _ _ _ _ _ _ w.heap.size z.heap.size B.heap.size wx (qE (F x y)) R.out (by omega) (by omega) (by omega) I
     (m 0 _ (by simp[go_sem])) (m 1 _ (by simp[go_sem])) (m 2 _ (by simp[go_sem])) (s 0 _ (by simp[go_sem])) (s 1 _ (by simp[go_sem])) (s 2 _ (by simp[go_sem]))
     (fun wy Y=>u.out wy ((z0a j.out h).trans (Y.mono (z0a j.out h).size)))
   rintro e w3 ⟨rfl,L⟩;have O:=qh (z0a j.out L);clear L;generalize limR (F x y)=lr at *;obtain⟨ls,ln⟩:=lr;go_wp2;go_ret2;exact⟨rfl,O.out⟩
end
section
open Go.RowKit
attribute [local go_sem ↓] Go.wp_at_zero Go.wp_at_succ
theorem v7b (p q:Bool) (i k h l a b c d:ByteArray) (s:Bool) (E:Ending) (w:World) (hE:(∃ r x y,E=.returned (.agg #[.bool r,.string x,.string y]))\/E=PT)
  (c1:∀ wx,Below w.heap.size w wx->Calls prog 189 #[.string i,.string l] wx (StrZ a wx))
  (c2:∀ wx,Below w.heap.size w wx->Calls prog 189 #[.string h,.string k] wx (StrZ b wx))
  (c3:∀ wx,Below w.heap.size w wx->Calls prog 187 #[.bool p,.string a,.bool q,.string b] wx fun e w'=>e=.returned (.tuple #[.bool s,.string c])/\Below wx.heap.size wx w')
  (c4:∀ wx,Below w.heap.size w wx->Calls prog 189 #[.string k,.string l] wx (StrZ d wx))
  (c5:∀ wx,Below w.heap.size w wx->Calls prog 190 #[.bool s,.string c,.string d] wx fun e w'=>e=E/\Below wx.heap.size wx w') :
  Calls prog 186 #[nvS p i k,nvS q h l] w fun e w'=>e=E/\Below w.heap.size w w':=by
 have K:=qh c1;clear c1;have L:=qh c2;clear c2;have J:=qh c3;clear c3;have N:=qh c4;clear c4;have I:=qh c5;clear c5;have g:=qh (y2z p q i k h l w);have Y:Below (WR p q i k h l w).heap.size (WR p q i k h l w) (WR p q i k h l w).drew:=blr.drew;unfold nvS
 rcases hE with ⟨r,x,y,rfl⟩|rfl
 ·-- a number
  go_enter func186,ntmps186
  go_wp2_with fail
  change Code.wp _ _ _ _ (WR p q i k h l w)
  go_region_held2 (fun j=>Below (WR p q i k h l w).heap.size (WR p q i k h l w) j /\
   j.cell? ⟨w.heap.size,0,none⟩=some (.bool p)/\j.cell? ⟨w.heap.size,1,none⟩=some (.string i)/\j.cell? ⟨w.heap.size,2,none⟩=some (.string k) /\
   j.cell? ⟨w.heap.size+1,0,none⟩=some (.bool q)/\j.cell? ⟨w.heap.size+1,1,none⟩=some (.string h)/\j.cell? ⟨w.heap.size+1,2,none⟩=some (.string l))
   (first|exact z6d (by assumption)|exact z6d blr.drew)
   (first
   | (go_at_call_of 189 (Value.string i);refine(K.out _ (z0a g.out (by assumption))).mono ?_;rintro e R ⟨rfl,C⟩;have F:=z0a (by assumption) C)
   | (go_at_call_of 189 (Value.string h);refine(L.out _ (z0a g.out (by assumption))).mono ?_;rintro e S ⟨rfl,B⟩;have G:=z0a (by assumption) B)
   | (go_at_call 188;refine(z1r _ _).mono ?_;rintro e w' ⟨rfl,rfl⟩)
   | (go_at_call 187;refine(J.out _ (z0a g.out (by assumption))).mono ?_;rintro e w3 ⟨rfl,A⟩;have m:=z0a (by assumption) A))
  rename_i H;obtain⟨_,Q,e1,W,e3,O,X⟩:=H
  go_wp2_with fail
  refine(N.out _ (z0a g.out m)).mono ?_;rintro e w4 ⟨rfl,D⟩;have o:=z0a m D
  go_wp2_with fail
  refine(z1r _ _).mono ?_;rintro e w' ⟨rfl,rfl⟩
  go_wp2_with fail
  refine(I.out _ (z0a g.out o)).mono ?_;rintro e T ⟨rfl,z⟩;have u:=z0a o z;obtain⟨P,Z,U,f0,f1,f2⟩:=y6y u;obtain⟨s0,s1,s2⟩:=set3 (a':=.bool r) (b':=.string x) (c':=.string y) P Z U
  go_wp2_with fail
  refine bodyPost_ret (z3t rfl _ _ (w.heap.size+1+1) r x y rfl s0 s1 s2) rfl ⟨rfl,(((z0a g.out u).setCell ?_ _).setCell ?_ _).setCell ?_ _⟩<;>(show w.heap.size<=w.heap.size+1+1;omega)
 unfold PT at I ⊢
 go_enter func186,ntmps186
 go_wp2_with fail
 change Code.wp _ _ _ _ (WR p q i k h l w)
 go_region_held2 (fun j=>Below (WR p q i k h l w).heap.size (WR p q i k h l w) j /\
  j.cell? ⟨w.heap.size,0,none⟩=some (.bool p)/\j.cell? ⟨w.heap.size,1,none⟩=some (.string i)/\j.cell? ⟨w.heap.size,2,none⟩=some (.string k) /\
  j.cell? ⟨w.heap.size+1,0,none⟩=some (.bool q)/\j.cell? ⟨w.heap.size+1,1,none⟩=some (.string h)/\j.cell? ⟨w.heap.size+1,2,none⟩=some (.string l))
  (first|exact z6d (by assumption)|exact z6d blr.drew)
  (first
  | (go_at_call_of 189 (Value.string i);refine(K.out _ (z0a g.out (by assumption))).mono ?_;rintro e R ⟨rfl,C⟩;have F:=z0a (by assumption) C)
  | (go_at_call_of 189 (Value.string h);refine(L.out _ (z0a g.out (by assumption))).mono ?_;rintro e S ⟨rfl,B⟩;have G:=z0a (by assumption) B)
  | (go_at_call 188;refine(z1r _ _).mono ?_;rintro e w' ⟨rfl,rfl⟩)
  | (go_at_call 187;refine(J.out _ (z0a g.out (by assumption))).mono ?_;rintro e w3 ⟨rfl,A⟩;have m:=z0a (by assumption) A))
 rename_i H;obtain⟨_,Q,e1,W,e3,O,X⟩:=H
 go_wp2_with fail
 refine(N.out _ (z0a g.out m)).mono ?_;rintro e w4 ⟨rfl,D⟩;have o:=z0a m D
 go_wp2_with fail
 refine(z1r _ _).mono ?_;rintro e w' ⟨rfl,rfl⟩
 go_wp2_with fail
 refine(I.out _ (z0a g.out o)).mono ?_;rintro e T ⟨rfl,z⟩;have u:=z0a o z
 go_wp2_with fail
 exact⟨rfl,rfl,z0a g.out u⟩
theorem v4d (p q:Bool) (i k h l a b c d:ByteArray) (s:Bool) (E:Ending) (w:World) (hE:(∃ r x y,E=.returned (.agg #[.bool r,.string x,.string y]))\/E=PT)
  (c1:∀ wx,Below w.heap.size w wx->Calls prog 189 #[.string i,.string l] wx (StrZ a wx))
  (c2:∀ wx,Below w.heap.size w wx->Calls prog 189 #[.string h,.string k] wx (StrZ b wx))
  (c3:∀ wx,Below w.heap.size w wx->Calls prog 187 #[.bool p,.string a,.bool (!q),.string b] wx fun e w'=>e=.returned (.tuple #[.bool s,.string c])/\Below wx.heap.size wx w')
  (c4:∀ wx,Below w.heap.size w wx->Calls prog 189 #[.string k,.string l] wx (StrZ d wx))
  (c5:∀ wx,Below w.heap.size w wx->Calls prog 190 #[.bool s,.string c,.string d] wx fun e w'=>e=E/\Below wx.heap.size wx w') :
  Calls prog 212 #[nvS p i k,nvS q h l] w fun e w'=>e=E/\Below w.heap.size w w':=by
 have K:=qh c1;clear c1;have L:=qh c2;clear c2;have J:=qh c3;clear c3;have N:=qh c4;clear c4;have I:=qh c5;clear c5;have g:=qh (y2z p q i k h l w);have Y:Below (WR p q i k h l w).heap.size (WR p q i k h l w) (WR p q i k h l w).drew:=blr.drew;unfold nvS
 rcases hE with ⟨r,x,y,rfl⟩|rfl
 ·-- a number
  go_enter func212,ntmps212
  go_wp2_with fail
  change Code.wp _ _ _ _ (WR p q i k h l w)
  go_region_held2 (fun j=>Below (WR p q i k h l w).heap.size (WR p q i k h l w) j /\
   j.cell? ⟨w.heap.size,0,none⟩=some (.bool p)/\j.cell? ⟨w.heap.size,1,none⟩=some (.string i)/\j.cell? ⟨w.heap.size,2,none⟩=some (.string k) /\
   j.cell? ⟨w.heap.size+1,0,none⟩=some (.bool q)/\j.cell? ⟨w.heap.size+1,1,none⟩=some (.string h)/\j.cell? ⟨w.heap.size+1,2,none⟩=some (.string l))
   (first|exact z6d (by assumption)|exact z6d blr.drew)
   (first
   | (go_at_call_of 189 (Value.string i);refine(K.out _ (z0a g.out (by assumption))).mono ?_;rintro e R ⟨rfl,C⟩;have F:=z0a (by assumption) C)
   | (go_at_call_of 189 (Value.string h);refine(L.out _ (z0a g.out (by assumption))).mono ?_;rintro e S ⟨rfl,B⟩;have G:=z0a (by assumption) B)
   | (go_at_call 188;refine(z1r _ _).mono ?_;rintro e w' ⟨rfl,rfl⟩)
   | (go_at_call 187;refine(J.out _ (z0a g.out (by assumption))).mono ?_;rintro e w3 ⟨rfl,A⟩;have m:=z0a (by assumption) A))
  rename_i H;obtain⟨_,Q,e1,W,e3,O,X⟩:=H
  go_wp2_with fail
  refine(N.out _ (z0a g.out m)).mono ?_;rintro e w4 ⟨rfl,D⟩;have o:=z0a m D
  go_wp2_with fail
  refine(z1r _ _).mono ?_;rintro e w' ⟨rfl,rfl⟩
  go_wp2_with fail
  refine(I.out _ (z0a g.out o)).mono ?_;rintro e T ⟨rfl,z⟩;have u:=z0a o z;obtain⟨P,Z,U,f0,f1,f2⟩:=y6y u;obtain⟨s0,s1,s2⟩:=set3 (a':=.bool r) (b':=.string x) (c':=.string y) P Z U
  go_wp2_with fail
  refine bodyPost_ret (z3t rfl _ _ (w.heap.size+1+1) r x y rfl s0 s1 s2) rfl ⟨rfl,(((z0a g.out u).setCell ?_ _).setCell ?_ _).setCell ?_ _⟩<;>(show w.heap.size<=w.heap.size+1+1;omega)
 unfold PT at I ⊢
 go_enter func212,ntmps212
 go_wp2_with fail
 change Code.wp _ _ _ _ (WR p q i k h l w)
 go_region_held2 (fun j=>Below (WR p q i k h l w).heap.size (WR p q i k h l w) j /\
  j.cell? ⟨w.heap.size,0,none⟩=some (.bool p)/\j.cell? ⟨w.heap.size,1,none⟩=some (.string i)/\j.cell? ⟨w.heap.size,2,none⟩=some (.string k) /\
  j.cell? ⟨w.heap.size+1,0,none⟩=some (.bool q)/\j.cell? ⟨w.heap.size+1,1,none⟩=some (.string h)/\j.cell? ⟨w.heap.size+1,2,none⟩=some (.string l))
  (first|exact z6d (by assumption)|exact z6d blr.drew)
  (first
  | (go_at_call_of 189 (Value.string i);refine(K.out _ (z0a g.out (by assumption))).mono ?_;rintro e R ⟨rfl,C⟩;have F:=z0a (by assumption) C)
  | (go_at_call_of 189 (Value.string h);refine(L.out _ (z0a g.out (by assumption))).mono ?_;rintro e S ⟨rfl,B⟩;have G:=z0a (by assumption) B)
  | (go_at_call 188;refine(z1r _ _).mono ?_;rintro e w' ⟨rfl,rfl⟩)
  | (go_at_call 187;refine(J.out _ (z0a g.out (by assumption))).mono ?_;rintro e w3 ⟨rfl,A⟩;have m:=z0a (by assumption) A))
 rename_i H;obtain⟨_,Q,e1,W,e3,O,X⟩:=H
 go_wp2_with fail
 refine(N.out _ (z0a g.out m)).mono ?_;rintro e w4 ⟨rfl,D⟩;have o:=z0a m D
 go_wp2_with fail
 refine(z1r _ _).mono ?_;rintro e w' ⟨rfl,rfl⟩
 go_wp2_with fail
 refine(I.out _ (z0a g.out o)).mono ?_;rintro e T ⟨rfl,z⟩;have u:=z0a o z
 go_wp2_with fail
 exact⟨rfl,rfl,z0a g.out u⟩
theorem v4p (p q:Bool) (g h i j a b:ByteArray) (E:Ending) (w:World) (N:(∃ r x y,E=.returned (.agg #[.bool r,.string x,.string y]))\/E=PT)
  (c1:∀ wx,Below w.heap.size w wx->Calls prog 189 #[.string g,.string i] wx (StrZ a wx))
  (c2:∀ wx,Below w.heap.size w wx->Calls prog 189 #[.string h,.string j] wx (StrZ b wx))
  (c5:∀ wx,Below w.heap.size w wx->Calls prog 190 #[.bool (p != q),.string a,.string b] wx fun e w'=>e=E/\Below wx.heap.size wx w') :
  Calls prog 192 #[nvS p g h,nvS q i j] w fun e w'=>e=E/\Below w.heap.size w w':=by
 have D:=qh c1;clear c1;have G:=qh c2;clear c2;have A:=qh c5;clear c5;have c:=qh (y2z p q g h i j w);have L:Below (WR p q g h i j w).heap.size (WR p q g h i j w) (WR p q g h i j w).drew:=blr.drew;unfold nvS
 rcases N with ⟨r,x,y,rfl⟩|rfl
 ·-- a number
  go_enter func192,ntmps192
  go_wp2_with fail
  change Code.wp _ _ _ _ (WR p q g h i j w)
  go_region_held2 (fun d=>Below (w.heap.size+1+1) (WR p q g h i j w) d /\
   d.cell? ⟨w.heap.size,0,none⟩=some (.bool p)/\d.cell? ⟨w.heap.size,1,none⟩=some (.string g)/\d.cell? ⟨w.heap.size,2,none⟩=some (.string h) /\
   d.cell? ⟨w.heap.size+1,0,none⟩=some (.bool q)/\d.cell? ⟨w.heap.size+1,1,none⟩=some (.string i)/\d.cell? ⟨w.heap.size+1,2,none⟩=some (.string j))
   (first|exact z2n (y2n (by assumption))|exact z2n (y2n blr.drew)|exact z2n ((((y2n (by assumption)).setCell nlr _).setCell nlr _).setCell nlr _))
   (first
   | (go_at_call_of 189 (Value.string g);refine(D.out _ (z0a c.out (by assumption))).mono ?_;rintro e J ⟨rfl,s⟩;have u:=z0a (by assumption) s)
   | (go_at_call_of 189 (Value.string h);refine(G.out _ (z0a c.out (by assumption))).mono ?_;rintro e K ⟨rfl,o⟩;have z:=z0a (by assumption) o)
   | (go_at_call 188;refine(z1r _ _).mono ?_;rintro e w' ⟨rfl,rfl⟩)
   | (go_at_call 190;refine(A.out _ (z0a c.out (by assumption))).mono ?_;rintro e P ⟨rfl,m⟩;have k:=z0a (by assumption) m;obtain⟨B,F,C,H,O,I⟩:=y6y k;obtain⟨s0,s1,s2⟩:=set3 (a':=.bool r) (b':=.string x) (c':=.string y) B F C))
  go_wp2_with fail
  refine bodyPost_ret (z3t rfl _ _ (w.heap.size+1+1) r x y rfl s0 s1 s2) rfl ⟨rfl,(((z0a c.out k).setCell ?_ _).setCell ?_ _).setCell ?_ _⟩<;>(show w.heap.size<=w.heap.size+1+1;omega)
 unfold PT at A ⊢
 go_enter func192,ntmps192
 go_wp2_with fail
 change Code.wp _ _ _ _ (WR p q g h i j w)
 go_region_held2 (fun d=>Below (w.heap.size+1+1) (WR p q g h i j w) d /\
  d.cell? ⟨w.heap.size,0,none⟩=some (.bool p)/\d.cell? ⟨w.heap.size,1,none⟩=some (.string g)/\d.cell? ⟨w.heap.size,2,none⟩=some (.string h) /\
  d.cell? ⟨w.heap.size+1,0,none⟩=some (.bool q)/\d.cell? ⟨w.heap.size+1,1,none⟩=some (.string i)/\d.cell? ⟨w.heap.size+1,2,none⟩=some (.string j))
  (first|exact z2n (y2n (by assumption))|exact z2n (y2n blr.drew)|exact z2n ((((y2n (by assumption)).setCell nlr _).setCell nlr _).setCell nlr _))
  (first
  | (go_at_call_of 189 (Value.string g);refine(D.out _ (z0a c.out (by assumption))).mono ?_;rintro e J ⟨rfl,s⟩;have u:=z0a (by assumption) s)
  | (go_at_call_of 189 (Value.string h);refine(G.out _ (z0a c.out (by assumption))).mono ?_;rintro e K ⟨rfl,o⟩;have z:=z0a (by assumption) o)
  | (go_at_call 188;refine(z1r _ _).mono ?_;rintro e w' ⟨rfl,rfl⟩)
  | (go_at_call 190;refine(A.out _ (z0a c.out (by assumption))).mono ?_;rintro e P ⟨rfl,m⟩;have k:=z0a (by assumption) m;obtain⟨B,F,C,H,O,I⟩:=y6y k;refine u5f (by assumption) 26 (.agg #[.bool false,.string ⟨#[]⟩,.string ⟨#[]⟩]) ⟨rfl,rfl,z0a c.out k⟩ (fun l=>?_)))
 exact l.out.elim
theorem v7h (p q:Bool) (g h i j a b:ByteArray) (E:Ending) (w:World) (N:(∃ r x y,E=.returned (.agg #[.bool r,.string x,.string y]))\/E=PT)
  (c1:∀ wx,Below w.heap.size w wx->Calls prog 189 #[.string g,.string j] wx (StrZ a wx))
  (c2:∀ wx,Below w.heap.size w wx->Calls prog 189 #[.string h,.string i] wx (StrZ b wx))
  (c5:∀ wx,Below w.heap.size w wx->Calls prog 190 #[.bool (p != q),.string a,.string b] wx fun e w'=>e=E/\Below wx.heap.size wx w') :
  Calls prog 213 #[nvS p g h,nvS q i j] w fun e w'=>e=E/\Below w.heap.size w w':=by
 have D:=qh c1;clear c1;have G:=qh c2;clear c2;have A:=qh c5;clear c5;have c:=qh (y2z p q g h i j w);have L:Below (WR p q g h i j w).heap.size (WR p q g h i j w) (WR p q g h i j w).drew:=blr.drew;unfold nvS
 rcases N with ⟨r,x,y,rfl⟩|rfl
 ·-- a number
  go_enter func213,ntmps213
  go_wp2_with fail
  change Code.wp _ _ _ _ (WR p q g h i j w)
  go_region_held2 (fun d=>Below (w.heap.size+1+1) (WR p q g h i j w) d /\
   d.cell? ⟨w.heap.size,0,none⟩=some (.bool p)/\d.cell? ⟨w.heap.size,1,none⟩=some (.string g)/\d.cell? ⟨w.heap.size,2,none⟩=some (.string h) /\
   d.cell? ⟨w.heap.size+1,0,none⟩=some (.bool q)/\d.cell? ⟨w.heap.size+1,1,none⟩=some (.string i)/\d.cell? ⟨w.heap.size+1,2,none⟩=some (.string j))
   (first|exact z2n (y2n (by assumption))|exact z2n (y2n blr.drew)|exact z2n ((((y2n (by assumption)).setCell nlr _).setCell nlr _).setCell nlr _))
   (first
   | (go_at_call_of 189 (Value.string g);refine(D.out _ (z0a c.out (by assumption))).mono ?_;rintro e J ⟨rfl,s⟩;have u:=z0a (by assumption) s)
   | (go_at_call_of 189 (Value.string h);refine(G.out _ (z0a c.out (by assumption))).mono ?_;rintro e K ⟨rfl,o⟩;have z:=z0a (by assumption) o)
   | (go_at_call 188;refine(z1r _ _).mono ?_;rintro e w' ⟨rfl,rfl⟩)
   | (go_at_call 190;refine(A.out _ (z0a c.out (by assumption))).mono ?_;rintro e P ⟨rfl,m⟩;have k:=z0a (by assumption) m;obtain⟨B,F,C,H,O,I⟩:=y6y k;obtain⟨s0,s1,s2⟩:=set3 (a':=.bool r) (b':=.string x) (c':=.string y) B F C))
  go_wp2_with fail
  refine bodyPost_ret (z3t rfl _ _ (w.heap.size+1+1) r x y rfl s0 s1 s2) rfl ⟨rfl,(((z0a c.out k).setCell ?_ _).setCell ?_ _).setCell ?_ _⟩<;>(show w.heap.size<=w.heap.size+1+1;omega)
 unfold PT at A ⊢
 go_enter func213,ntmps213
 go_wp2_with fail
 change Code.wp _ _ _ _ (WR p q g h i j w)
 go_region_held2 (fun d=>Below (w.heap.size+1+1) (WR p q g h i j w) d /\
  d.cell? ⟨w.heap.size,0,none⟩=some (.bool p)/\d.cell? ⟨w.heap.size,1,none⟩=some (.string g)/\d.cell? ⟨w.heap.size,2,none⟩=some (.string h) /\
  d.cell? ⟨w.heap.size+1,0,none⟩=some (.bool q)/\d.cell? ⟨w.heap.size+1,1,none⟩=some (.string i)/\d.cell? ⟨w.heap.size+1,2,none⟩=some (.string j))
  (first|exact z2n (y2n (by assumption))|exact z2n (y2n blr.drew)|exact z2n ((((y2n (by assumption)).setCell nlr _).setCell nlr _).setCell nlr _))
  (first
  | (go_at_call_of 189 (Value.string g);refine(D.out _ (z0a c.out (by assumption))).mono ?_;rintro e J ⟨rfl,s⟩;have u:=z0a (by assumption) s)
  | (go_at_call_of 189 (Value.string h);refine(G.out _ (z0a c.out (by assumption))).mono ?_;rintro e K ⟨rfl,o⟩;have z:=z0a (by assumption) o)
  | (go_at_call 188;refine(z1r _ _).mono ?_;rintro e w' ⟨rfl,rfl⟩)
  | (go_at_call 190;refine(A.out _ (z0a c.out (by assumption))).mono ?_;rintro e P ⟨rfl,m⟩;have k:=z0a (by assumption) m;obtain⟨B,F,C,H,O,I⟩:=y6y k;refine u5f (by assumption) 26 (.agg #[.bool false,.string ⟨#[]⟩,.string ⟨#[]⟩]) ⟨rfl,rfl,z0a c.out k⟩ (fun l=>?_)))
 exact l.out.elim
end
section
open Go.RowKit
theorem u3t (x y:Rat) (w:World) (g:fitQ x) (d:fitQ y) (o:Tab w):Calls prog 186 #[nv x,nv y] w (QEnd (x+y) w):=by
 have i:∀ c,Below w.heap.size w c->Tab c:=fun c h=>o.below h nlr;have m:fits (x.num.natAbs*y.den):=z3j g.1 d.2;have l:fits (y.num.natAbs*x.den):=z3j d.1 g.2;have j:fits (x.num.natAbs*y.den+y.num.natAbs*x.den):=y8t g.1 d.2 d.1 g.2;have k:fits (x.den*y.den):=z3j g.2 d.2;unfold QEnd;rw[u5r x y];exact v7b (negQ x) (negQ y) _ _ _ _ (str (dec (x.num.natAbs*y.den))) (str (dec (y.num.natAbs*x.den))) _ (str (dec (x.den*y.den))) _ _ w (qE _)
  (fun c h=>z5b _ _ c (z6j g) (z4e d) m (i c h)) (fun c h=>z5b _ _ c (z6j d) (z4e g) l (i c h))
  (fun c h=>y1d (negQ x) (negQ y) _ _ c j (i c h)) (fun c h=>z5b _ _ c (z4e g) (z4e d) k (i c h))
  (fun c h=>y0t _ _ _ c (z9m j (x9t _ _ _ _)) k (Nat.mul_ne_zero x.den_nz y.den_nz) (i c h))
theorem u4t (x y:Rat) (w:World) (g:fitQ x) (d:fitQ y) (o:Tab w):Calls prog 212 #[nv x,nv y] w (QEnd (x-y) w):=by
 have i:∀ c,Below w.heap.size w c->Tab c:=fun c h=>o.below h nlr;have m:fits (x.num.natAbs*y.den):=z3j g.1 d.2;have l:fits (y.num.natAbs*x.den):=z3j d.1 g.2;have j:fits (x.num.natAbs*y.den+y.num.natAbs*x.den):=y8t g.1 d.2 d.1 g.2;have k:fits (x.den*y.den):=z3j g.2 d.2;unfold QEnd;rw[u5y x y];exact v4d (negQ x) (negQ y) _ _ _ _ (str (dec (x.num.natAbs*y.den))) (str (dec (y.num.natAbs*x.den))) _ (str (dec (x.den*y.den))) _ _ w (qE _)
  (fun c h=>z5b _ _ c (z6j g) (z4e d) m (i c h)) (fun c h=>z5b _ _ c (z6j d) (z4e g) l (i c h))
  (fun c h=>y1d (negQ x) (!negQ y) _ _ c j (i c h)) (fun c h=>z5b _ _ c (z4e g) (z4e d) k (i c h))
  (fun c h=>y0t _ _ _ c (z9m j (x9t _ _ _ _)) k (Nat.mul_ne_zero x.den_nz y.den_nz) (i c h))
theorem u4e (x y:Rat) (w:World) (d:fitQ x) (g:fitQ y) (l:Tab w):Calls prog 192 #[nv x,nv y] w (QEnd (x*y) w):=by
 have i:∀ c,Below w.heap.size w c->Tab c:=fun c h=>l.below h nlr;have k:fits (x.num.natAbs*y.num.natAbs):=z3j d.1 g.1;have j:fits (x.den*y.den):=z3j d.2 g.2;unfold QEnd;rw[u5t x y];exact v4p (negQ x) (negQ y) _ _ _ _ (str (dec (x.num.natAbs*y.num.natAbs))) (str (dec (x.den*y.den))) _ w (qE _)
  (fun c h=>z5b _ _ c (z6j d) (z6j g) k (i c h)) (fun c h=>z5b _ _ c (z4e d) (z4e g) j (i c h))
  (fun c h=>y0t _ _ _ c k j (Nat.mul_ne_zero x.den_nz y.den_nz) (i c h))
theorem u6b (x y:Rat) (w:World) (g:fitQ x) (d:fitQ y) (m:y≠0) (l:Tab w):Calls prog 213 #[nv x,nv y] w (QEnd (x / y) w):=by
 have i:∀ c,Below w.heap.size w c->Tab c:=fun c h=>l.below h nlr;have k:fits (x.num.natAbs*y.den):=z3j g.1 d.2;have j:fits (x.den*y.num.natAbs):=z3j g.2 d.1;unfold QEnd;rw[u3z x y];exact v7h (negQ x) (negQ y) _ _ _ _ (str (dec (x.num.natAbs*y.den))) (str (dec (x.den*y.num.natAbs))) _ w (qE _)
  (fun c h=>z5b _ _ c (z6j g) (z4e d) k (i c h)) (fun c h=>z5b _ _ c (z4e g) (z6j d) j (i c h))
  (fun c h=>y0t _ _ _ c k j ((Nat.mul_ne_zero x.den_nz (fun e=>m (Rat.num_eq_zero.1 (Int.natAbs_eq_zero.1 e))))) (i c h))
theorem v7v:∀ args w,(callFunc 186 args).run prog w=.ok (.enter 186 args) w:=fun args w=>by kernel_rfl
theorem x4x (a b:ByteArray) (w:World) (g:a.size<=9223372036854775807) (hb:b.size<=9223372036854775807) (d:Tab w) :
  Calls prog 158 #[.string a,.string b] w (PairEnd (x0h a b) w):=by
 have c:=z5m 186 (fun x y=>x+y) a b w g hb d v7v (fun x y o l j h=>u3t x y j (z2t o).2 (z2t l).2 (d.below h nlr));have i:okR (fun x y=>x+y) a b=x0h a b:=rfl;rw[i] at c;generalize x0h a b=r at *;obtain⟨s,p⟩:=r;have m:=qh c;clear c i d g hb
 go_enter func158,ntmps158
 go_wp2_with fail
 refine m.out.mono ?_;rintro e u ⟨rfl,hb⟩;have k:=qh hb;clear hb;go_wp2;go_ret2;exact⟨rfl,k.out⟩
theorem v7x:∀ args w,(callFunc 212 args).run prog w=.ok (.enter 212 args) w:=fun args w=>by kernel_rfl
theorem v5f (a b:ByteArray) (w:World) (g:a.size<=9223372036854775807) (hb:b.size<=9223372036854775807) (d:Tab w) :
  Calls prog 193 #[.string a,.string b] w (PairEnd (x8m a b) w):=by
 have c:=z5m 212 (fun x y=>x-y) a b w g hb d v7x (fun x y o l j h=>u4t x y j (z2t o).2 (z2t l).2 (d.below h nlr));have i:okR (fun x y=>x-y) a b=x8m a b:=rfl;rw[i] at c;generalize x8m a b=r at *;obtain⟨s,p⟩:=r;have m:=qh c;clear c i d g hb
 go_enter func193,ntmps193
 go_wp2_with fail
 refine m.out.mono ?_;rintro e u ⟨rfl,hb⟩;have k:=qh hb;clear hb;go_wp2;go_ret2;exact⟨rfl,k.out⟩
theorem v5m:∀ args w,(callFunc 192 args).run prog w=.ok (.enter 192 args) w:=fun args w=>by kernel_rfl
theorem x4p (a b:ByteArray) (w:World) (g:a.size<=9223372036854775807) (hb:b.size<=9223372036854775807) (d:Tab w) :
  Calls prog 162 #[.string a,.string b] w (PairEnd (y9g a b) w):=by
 have c:=z5m 192 (fun x y=>x*y) a b w g hb d v5m (fun x y o l j h=>u4e x y j (z2t o).2 (z2t l).2 (d.below h nlr));have i:okR (fun x y=>x*y) a b=y9g a b:=rfl;rw[i] at c;generalize y9g a b=r at *;obtain⟨s,p⟩:=r;have m:=qh c;clear c i d g hb
 go_enter func162,ntmps162
 go_wp2_with fail
 refine m.out.mono ?_;rintro e u ⟨rfl,hb⟩;have k:=qh hb;clear hb;go_wp2;go_ret2;exact⟨rfl,k.out⟩
theorem z8h (a:ByteArray) (w:World) (g:a.size<=9223372036854775807) (h:Tab w) :
  Calls prog 160 #[.string a] w fun e w'=>e=.returned (.bool (prs a).isSome)/\Below w.heap.size w w':=by
 have c:=z7u a w g h;obtain⟨r,x,y,d⟩:=y7p (prs a);rw[d] at c;generalize (prs a).isSome=o at *;have j:=qh c;clear c d g h
 go_enter func160,ntmps160
 go_wp2_with fail
 refine j.out.mono ?_;rintro e w' ⟨rfl,hb⟩;have i:=qh hb;clear hb;go_wp2;go_ret;exact⟨rfl,i.out⟩
theorem y0f:prs ⟨#[48]⟩=some 0:=by
 have:txt 0=⟨#[48]⟩:=by unfold txt txtL;rw[show negQ 0=false from rfl,show (0:Rat).num.natAbs=0 from rfl,show (0:Rat).den=1 from rfl,z5e];rfl
 rw[<- this];exact z2k (by unfold fitQ;rw[show (0:Rat).num.natAbs=0 from rfl,show (0:Rat).den=1 from rfl,z5e,z5s];decide)
theorem y3n {b:ByteArray} (h:prs b=some 0):b=⟨#[48]⟩:=by
 have d:=(z2t h).1;have c:=(z2t y0f).1;rw[d,c]
theorem x4y:∀ args w,(callFunc 213 args).run prog w=.ok (.enter 213 args) w:=fun args w=>by kernel_rfl
theorem v7u (a b:ByteArray) (w:World) (k:a.size<=9223372036854775807) (hb:b.size<=9223372036854775807) (j:Tab w) :
  Calls prog 194 #[.string a,.string b] w (PairEnd (y5n a b) w):=by
 have c1:=z8h a w k j;by_cases m:b=⟨#[48]⟩
 ·subst m;cases g:prs a with
  | some x =>
   have i:y5n a ⟨#[48]⟩=(str [],4):=by unfold y5n;rw[g,y0f];simp
   rw[i];rw[g] at c1;simp only[Option.isSome] at c1;have l:=qh c1;clear c1 k hb j g i
   go_enter func194,ntmps194
   go_wp2_with fail
   refine l.out.mono ?_;rintro e K ⟨rfl,hb⟩;have D:=qh hb;clear hb;go_wp2;go_ret2;exact⟨rfl,D.out⟩
  | none =>
   have i:y5n a ⟨#[48]⟩=(str [],1):=by unfold y5n;rw[g]
   rw[i];have c2:=fun p (h:Below w.heap.size w p)=>z5m 213 (fun x y=>x / y) a ⟨#[48]⟩ p k hb (j.below h nlr) x4y (fun x y u=>by rw[g] at u;simp at u);have z:okR (fun x y=>x / y) a ⟨#[48]⟩=(str [],1):=by unfold okR;rw[g]
   rw[z] at c2;rw[g] at c1;simp only[Option.isSome] at c1;have l:=qh c1;have s:=qh c2;clear c1 c2 k hb j g i z
   go_enter func194,ntmps194
   go_wp2_with fail
   refine nxa l.out fun B c=>?_
   go_wp2_with fail
   refine nxb (s.out _ c.out) c fun C d=>?_;go_wp2;go_ret2;exact⟨rfl,d.out⟩
 have G:(b.toList==[48])=false:=z4n m;have c2:=fun p (h:Below w.heap.size w p)=>z5m 213 (fun x y=>x / y) a b p k hb (j.below h nlr) x4y
  (fun x y u A E H=>u6b x y E (z2t u).2 (z2t A).2 (fun e=>by subst e;exact m (y3n A)) (j.below (h.trans (H.mono h.size)) nlr))
 have i:okR (fun x y=>x / y) a b=y5n a b:=by
  unfold okR y5n;cases g:prs a with
  | none=>rfl
  | some x =>
   cases F:prs b with
   | none=>rfl
   | some y=>simp only;rw[if_neg (fun e=>by subst e;exact m (y3n F))]
 rw[i] at c2;generalize y5n a b=r at *;obtain⟨J,I⟩:=r;generalize (prs a).isSome=o at *;have l:=qh c1;have s:=qh c2;clear c1 c2 k hb j i m;cases o
 ·go_enter func194,ntmps194
  go_wp2_with fail
  refine nxa l.out fun B c=>?_
  go_wp2_with fail
  refine nxb (s.out _ c.out) c fun C d=>?_;go_wp2;go_ret2;exact⟨rfl,d.out⟩
 go_enter func194,ntmps194
 go_wp2_with fail
 refine nxa l.out fun B c=>?_
 go_wp2_with fail
 refine nxb (s.out _ c.out) c fun C d=>?_;go_wp2;go_ret2;exact⟨rfl,d.out⟩
end
section
open Go.RowKit
attribute [local go_sem ↓] Go.wp_at_zero Go.wp_at_succ
theorem u3m (p q:Bool) (z E u C a b c:ByteArray) (s:Bool) (v:Int) (s1 s2:ByteArray) (w:World)
  (D:((c.toList==[48])=true/\v=0)\/((c.toList==[48])=false/\s=true/\v=-1)\/((c.toList==[48])=false/\s=false/\v=1))
  (c0:∀ wx,Below w.heap.size w wx->Calls prog 191 #[.string s1] wx fun e w'=>e=.returned (.tuple #[.agg #[.bool p,.string z,.string E],.bool true])/\Below wx.heap.size wx w')
  (H:∀ wx,Below w.heap.size w wx->Calls prog 191 #[.string s2] wx fun e w'=>e=.returned (.tuple #[.agg #[.bool q,.string u,.string C],.bool true])/\Below wx.heap.size wx w')
  (c1:∀ wx,Below w.heap.size w wx->Calls prog 189 #[.string z,.string C] wx (StrZ a wx))
  (c2:∀ wx,Below w.heap.size w wx->Calls prog 189 #[.string u,.string E] wx (StrZ b wx))
  (c3:∀ wx,Below w.heap.size w wx->Calls prog 187 #[.bool p,.string a,.bool (!q),.string b] wx fun e w'=>e=.returned (.tuple #[.bool s,.string c])/\Below wx.heap.size wx w') :
  Calls prog 195 #[.string s1,.string s2] w (IntEnd v w):=by
 have C0:=qh c0;clear c0;have I:=qh H;clear H;have Y:=qh c1;clear c1;have Z:=qh c2;clear c2;have S:=qh c3;clear c3;have HV:=qh D;clear D
 go_enter func195,ntmps195
 go_wp2_with fail
 refine(C0.out _ blr).mono ?_;rintro e j ⟨rfl,o⟩;have a1:=qh o;have B:=qh (o.alloc o.size (.cells #[.bool p,.string z,.string E] 189));clear o
 go_wp2_with fail
 refine(I.out _ B.out).mono ?_;rintro e l ⟨rfl,m⟩;have G:=qh m;have g:=qh ((z0a B.out m).alloc (Nat.le_trans B.out.size m.size) (.cells #[.bool q,.string u,.string C] 189));clear m
 go_wp2_with fail
 obtain⟨W,F⟩:=exq (l.alloc (.cells #[.bool q,.string u,.string C] 189));have k:∀ d,Below W.heap.size W d->(Below W.heap.size W d /\
  d.cell? ⟨j.heap.size,0,none⟩=some (.bool p)/\d.cell? ⟨j.heap.size,1,none⟩=some (.string z)/\d.cell? ⟨j.heap.size,2,none⟩=some (.string E) /\
  d.cell? ⟨l.heap.size,0,none⟩=some (.bool q)/\d.cell? ⟨l.heap.size,1,none⟩=some (.string u)/\d.cell? ⟨l.heap.size,2,none⟩=some (.string C)):=by
  intro d h;subst F;have X:=G.out.size;rw[World.size_alloc] at X;have K:∀ (i:Nat) (v:Value),(j.alloc (.cells #[.bool p,.string z,.string E] 189)).cell? ⟨j.heap.size,i,none⟩=some v->d.cell? ⟨j.heap.size,i,none⟩=some v:=by
   intro i v D;refine(h.cell (p:=⟨j.heap.size,i,none⟩) (by rw[World.size_alloc];show j.heap.size<_;omega)).trans ?_;rw[World.cell?_alloc_past (hn:=by omega)];exact(G.out.cell (p:=⟨j.heap.size,i,none⟩) (by rw[World.size_alloc];show j.heap.size<_;omega)).trans D
  have N:∀ (i:Nat) (v:Value),(l.alloc (.cells #[.bool q,.string u,.string C] 189)).cell? ⟨l.heap.size,i,none⟩=some v->d.cell? ⟨l.heap.size,i,none⟩=some v:=by
   intro i v D;exact(h.cell (p:=⟨l.heap.size,i,none⟩) (by rw[World.size_alloc];show l.heap.size<_;omega)).trans D
  exact⟨h,K 0 _ (by simp[go_sem]),K 1 _ (by simp[go_sem]),K 2 _ (by simp[go_sem]),N 0 _ (by simp[go_sem]),N 1 _ (by simp[go_sem]),N 2 _ (by simp[go_sem])⟩
 rw[<- F];rw[<- F] at g;have O:=qh k;clear k;have T:=qh F;clear F;have U:Below W.heap.size W W.drew:=blr.drew
 go_region_held2 (fun d=>Below W.heap.size W d /\
  d.cell? ⟨j.heap.size,0,none⟩=some (.bool p)/\d.cell? ⟨j.heap.size,1,none⟩=some (.string z)/\d.cell? ⟨j.heap.size,2,none⟩=some (.string E) /\
  d.cell? ⟨l.heap.size,0,none⟩=some (.bool q)/\d.cell? ⟨l.heap.size,1,none⟩=some (.string u)/\d.cell? ⟨l.heap.size,2,none⟩=some (.string C))
  (first|exact O.out _ (by assumption)|exact O.out _ blr.drew)
  (first
   | (go_at_call_of 189 (Value.string z);refine(Y.out _ (z0a g.out (by assumption))).mono ?_;rintro e j ⟨rfl,o⟩;have Q:=z0a (by assumption) o)
   | (go_at_call_of 189 (Value.string u);refine(Z.out _ (z0a g.out (by assumption))).mono ?_;rintro e l ⟨rfl,m⟩;have R:=z0a (by assumption) m)
   | (go_at_call 188;refine(z1r _ _).mono ?_;rintro e w' ⟨rfl,rfl⟩)
   | (go_at_call 187;refine(S.out _ (z0a g.out (by assumption))).mono ?_;rintro e w3 ⟨rfl,L⟩;have J:=z0a (by assumption) L))
 have A:=qh J
 rcases HV.out with ⟨P,rfl⟩|⟨P,rfl,rfl⟩|⟨P,rfl,rfl⟩
 ·go_wp2;go_ret;exact⟨rfl,z0a g.out A.out⟩
 ·go_wp2;go_ret;exact⟨rfl,z0a g.out A.out⟩
 go_wp2;go_ret;exact⟨rfl,z0a g.out A.out⟩
theorem x3q (n:Nat):((str (dec n)).toList==[48])=decide (n=0):=by
 rw[str_eq,decide_eq_decide];exact⟨fun h=>z7x (h.trans z5e.symm),fun h=>by rw[h,z5e]⟩
theorem y8e (a b:ByteArray) (w:World) (D:a.size<=9223372036854775807) (hb:b.size<=9223372036854775807) (E:Tab w) :
  Calls prog 195 #[.string a,.string b] w (IntEnd (y3x a b) w):=by
 have m:∀ c,Below w.heap.size w c->Tab c:=fun c h=>E.below h nlr;have c1:=fun c (h:Below w.heap.size w c)=>z7u a c D (m c h);have c2:=fun c (h:Below w.heap.size w c)=>z7u b c hb (m c h);cases l:prs a with
 | none =>
  have p:y3x a b=0:=by unfold y3x;rw[l]
  rw[p];simp only[l,Option.isSome,prsV] at c1;generalize (prs b).isSome=o at c2;obtain⟨r,x,y,F⟩:=y7p (prs b);rw[F] at c2;have B:=qh c1;clear c1;have C:=qh c2;clear c2 p l F E D hb m;unfold NoNum nvS at B
  go_enter func195,ntmps195
  go_wp2_with fail
  refine(B.out _ blr).mono ?_;rintro e I ⟨rfl,d⟩;have i:=qh (d.alloc d.size (.cells #[.bool false,.string ⟨#[]⟩,.string ⟨#[]⟩] 189));clear d
  go_wp2_with fail
  refine(C.out _ i.out).mono ?_;rintro e J ⟨rfl,j⟩;have g:=qh (z0a i.out j);clear j;go_wp2;go_ret;exact⟨rfl,g.out.alloc g.out.size _⟩
 | some x =>
  simp only[l,Option.isSome,prsV] at c1;cases u:prs b with
  | none =>
   have p:y3x a b=0:=by unfold y3x;rw[l,u]
   rw[p];simp only[u,Option.isSome,prsV] at c2;have B:=qh c1;clear c1;have C:=qh c2;clear c2 p l u E D hb m;unfold NoNum nvS at C;unfold nv nvS at B
   go_enter func195,ntmps195
   go_wp2_with fail
   refine(B.out _ blr).mono ?_;rintro e I ⟨rfl,d⟩;have i:=qh (d.alloc d.size (.cells #[.bool (negQ x),.string (str (dec x.num.natAbs)),.string (str (dec x.den))] 189));clear d
   go_wp2_with fail
   refine(C.out _ i.out).mono ?_;rintro e J ⟨rfl,j⟩;have g:=qh (z0a i.out j);clear j;go_wp2;go_ret;exact⟨rfl,g.out.alloc g.out.size _⟩
  | some y =>
   have A:=(z2t l).2;have z:=(z2t u).2;have p:y3x a b=cmpQ x y:=by unfold y3x;rw[l,u]
   rw[p];simp only[u,Option.isSome,prsV] at c2;have H:fits (x.num.natAbs*y.den):=z3j A.1 z.2;have K:fits (y.num.natAbs*x.den):=z3j z.1 A.2;have L:fits (x.num.natAbs*y.den+y.num.natAbs*x.den):=y8t A.1 z.2 z.1 A.2;refine u3m (negQ x) (negQ y) _ _ _ _ (str (dec (x.num.natAbs*y.den))) (str (dec (y.num.natAbs*x.den))) (str (dec (sumF (negQ x) (x.num.natAbs*y.den) (!negQ y) (y.num.natAbs*x.den)).2)) (sumF (negQ x) (x.num.natAbs*y.den) (!negQ y) (y.num.natAbs*x.den)).1 (cmpQ x y) a b w ?_ c1 c2
    (fun c h=>z5b _ _ c (z6j A) (z4e z) H (m c h)) (fun c h=>z5b _ _ c (z6j z) (z4e A) K (m c h))
    (fun c h=>y1d (negQ x) (!negQ y) _ _ c L (m c h))
   rw[u3x x y,x3q];generalize sumF (negQ x) (x.num.natAbs*y.den) (!negQ y) (y.num.natAbs*x.den)=r;obtain⟨s,k⟩:=r;by_cases G:k=0
   ·left;simp[G]
   right;cases s<;>simp[G]
end
section
open Go.RowKit
abbrev fv (g:FuncId):Value:=.func (.func g) #[] #[]
def ring0:Array Value:=#[.string ⟨#[]⟩,.string ⟨#[]⟩,.bool false,.nilFunc,.nilFunc,.nilFunc,.nilFunc,.nilFunc]
def ring1:Array Value:=#[.string ⟨#[105,110,102]⟩,.string ⟨#[48]⟩,.bool true,fv 157,fv 158,fv 159,fv 160,fv 160]
def ring2:Array Value:=#[.string ⟨#[48]⟩,.string ⟨#[49]⟩,.bool false,fv 161,fv 162,fv 163,fv 164,fv 165]
def ring3:Array Value:=#[.string ⟨#[48]⟩,.string ⟨#[49]⟩,.bool false,fv 157,fv 162,fv 166,fv 164,fv 165]
def z7k:Array Value:=#[.string ⟨#[]⟩,.string ⟨#[]⟩,.bool false,.nilFunc,.nilFunc,.nilFunc,.nilFunc,.nilFunc,
 .string ⟨#[105,110,102]⟩,.string ⟨#[48]⟩,.bool true,fv 157,fv 158,fv 159,fv 160,fv 160,
 .string ⟨#[48]⟩,.string ⟨#[49]⟩,.bool false,fv 161,fv 162,fv 163,fv 164,fv 165,
 .string ⟨#[48]⟩,.string ⟨#[49]⟩,.bool false,fv 157,fv 162,fv 166,fv 164,fv 165]
theorem z5c {P:Program} {g:Array Oper} {d:List Oper} {i:Oper} {a:Act} {w:World} {Q:Exit->Act->World->Prop} (j:i.guard=none) (t:TypeId) (x y:Operand) (k:i.op=.store t x y)
  (c c':Array Value) (s:a.eval x=.pointer (some ⟨w.heap.size,0,none⟩)) (p:a.eval y=.agg c') (hi:(P.info? t).map (·.size)=some c'.size) (l:c.size=c'.size) (m:c'.all (·.oneCell')=true)
  (h:wpList P g Q d (a.put i.dst undef) (w.alloc (.cells c' t))):wpList P g Q (i::d) a (w.alloc (.cells c t)) :=
 wpList_plain j fun _ o=>by
  unfold Oper.wp execOp;simp only[k,s,p,Instr.storeAt,Instr.sureAddr,Sem.run_bind,Sem.run_pure,Result.andThen_ok,run_storeVar_new w t c c' hi l m];exact o _ _ h
theorem z7q {fn:Func} {p:Tmp} {d:TypeId} (h:fn.results=#[.cell p d]) (c:Array Value) (P:Program) (w:World) :
  (results fn c).run P w=((asAddr (c.getD p undef)).run P w).andThen fun a w₁=>(loadVar d a).run P w₁:=by
 simp only[results,h];simp[Sem.run_bind,Result.andThen]
theorem y3v (w:World):Calls prog 134 #[] w fun e w'=>e=.returned (.agg z7k)/\Below w.heap.size w w':=by
 have hi:(prog.info? 150).map (·.size)=some z7k.size:=by kernel_rfl
 have d:z7k.all (·.oneCell')=true:=by decide +kernel
 have c:=qh hi;clear hi;have g:=qh d;clear d
 go_enter func134,ntmps134
 go_wp2_with (refine z5c rfl 150 (.tmp 0) (.tmp 4) rfl _ z7k rfl rfl c.out rfl g.out ?_)
 refine bodyPost_ret (v:=.agg z7k) ?_ rfl ⟨rfl,blr.alloc nlr _⟩;rw[z7q rfl];exact run_loadVar_new w 150 z7k 4 123 underlying150 c.out
theorem there8 {w g:World} {c:Array Value} {t:TypeId} (k:c.size=8) (h:Below (w.alloc (.cells c t)).heap.size (w.alloc (.cells c t)) g):g.there w.heap.size 0 8:=by
 intro j i;have d:w.heap.size<(w.alloc (.cells c t)).heap.size:=by simp
 have e:=h.cell (p:=⟨w.heap.size,0+j,none⟩) d;have f:=h.frozen (p:=⟨w.heap.size,0+j,none⟩) d;rw[e,f]
 constructor
 ·rw[cell_of_row _ _ (0+j) c t (0,0) (heap_alloc_last w _)];simp[k,i]
 exact World.frozen?_alloc_new w c t _
def OfEnd (r:Array Value) (b:Bool) (w:World) (e:Ending) (w':World):Prop:=e=.returned (.tuple #[.agg r,.bool b])/\Below w.heap.size w w'
theorem z7g {fn:Func} {p u:Tmp} (h:fn.results=#[.cell p 123,.tmp u]) (c:Array Value) (W:World) (b:Nat) (r:List Value) (v:Value) (g:c.getD p undef=.pointer (some ⟨b,0,none⟩)) (j:c.getD u undef=v)
  (d:r.length=8) (i:W.rangeAt b 0 r):(results fn c).run prog W=.ok (.tuple #[.agg r.toArray,v]) W:=by
 rw[results_cell_tmp h,g,j];have hi:(prog.info? 123).map (·.size)=some r.length:=by rw[d];kernel_rfl
 have:=run_loadVar_mid (P:=prog) W b 0 123 r _ i underlying123 rfl hi;show ((loadVar 123 ⟨b,0,none⟩).run prog W).andThen _=_;rw[this];rfl
theorem x1b (w:World) (c:Array Value) (t:TypeId):(w.alloc (.cells c t)).rangeAt w.heap.size 0 c.toList:=by
 intro j v d;rw[cell_of_row _ _ (0+j) c t (0,0) (heap_alloc_last w _)];rw[Nat.zero_add];rw[Array.getElem?_toList] at d;exact d
theorem x3j (k:Int) (w:World) (c:k<1\/3<k):Calls prog 97 #[.int .i64 k] w (OfEnd ring0 false w):=by
 have hi:(prog.info? 123).map (·.size)=some ring0.size:=by kernel_rfl
 have h:ring0.all (·.oneCell')=true:=by decide +kernel
 have g:=qh hi;clear hi;have d:=qh h;clear h
 rcases c with c|c
 ·go_enter func97,ntmps97
  go_wp2_with (refine z5c rfl 123 (.tmp 2) (.tmp 10) rfl _ ring0 rfl rfl g.out rfl d.out ?_)
  exact bodyPost_ret (z7g rfl _ _ w.heap.size ring0.toList (.bool false) rfl rfl rfl (x1b w ring0 _)) rfl ⟨rfl,blr.alloc nlr _⟩
 have i:decide (k<1)=false:=by rw[decide_eq_false_iff_not];omega
 go_enter func97,ntmps97
 go_wp2_with (refine z5c rfl 123 (.tmp 2) (.tmp 10) rfl _ ring0 rfl rfl g.out rfl d.out ?_)
 exact bodyPost_ret (z7g rfl _ _ w.heap.size ring0.toList (.bool false) rfl rfl rfl (x1b w ring0 _)) rfl ⟨rfl,blr.alloc nlr _⟩
end
section
open Go.RowKit
theorem z8g {B b:Nat} {a:World}:∀ {w:World},Below B a w->B<=b->∀ (vs:List Value) (o:Nat),Below B a (w.setCells b o vs)
 | _,h,_,[],_=>h
 | _,h,hB,v::vs,o=>z8g (h.setCell (p:=⟨b,o,none⟩) hB v) hB vs (o+1)
theorem v0j (k:Int) (m R:Array Value) (w:World) (D:1<=k) (F:k<=3) (d:R.size=8) (s:R.all (·.oneCell')=true) (u:∀ wx,Calls prog 134 #[] wx fun e w'=>e=.returned (.agg m)/\Below wx.heap.size wx w')
  (I:∀ w,(Instr.index 150 (.agg m) (.int .i64 k)).run prog w=.ok (.agg R) w):Calls prog 97 #[.int .i64 k] w (OfEnd R true w):=by
 have hi:(prog.info? 123).map (·.size)=some R.size:=by rw[d];kernel_rfl
 have A:=qh hi;clear hi;have H:=qh s;clear s;have G:=qh u;clear u;have z:=qh d;clear d;have C:decide (k<1)=false:=by rw[decide_eq_false_iff_not];omega
 have B:decide (3<k)=false:=by rw[decide_eq_false_iff_not];omega
 have h:Below w.heap.size w (w.alloc (.cells ring0 123)):=blr.alloc nlr _;have l:=qh h;clear h
 go_enter func97,ntmps97
 go_wp2_with fail
 refine(G.out _).mono ?_;rintro e E ⟨rfl,j⟩;have i:=qh j;clear j;have o:=there8 rfl i.out;rw[<- z.out] at o;have p:=qh o;clear o
 go_wp2_with (refine wpList_store_mid rfl 123 (.tmp 2) (.tmp 13) rfl w.heap.size 0 R rfl rfl p.out A.out H.out ?_)
 have g:=World.rangeAt_setCells_same E w.heap.size 0 R.toList (by rw[Array.length_toList];exact p.out);have c:=z7g (fn:=f97) rfl #[.int .i64 k,undef,.pointer (some ⟨w.heap.size,0,none⟩),.bool true,.int .i64 k,.bool false,.bool false,.int .i64 k,.bool false,.bool false,undef,.agg m,.int .i64 k,.agg R] _ w.heap.size R.toList (.bool true) rfl rfl (by rw[Array.length_toList];exact z.out) g;rw[Array.toArray_toList] at c;exact bodyPost_ret c rfl ⟨rfl,z8g (l.out.trans (i.out.mono l.out.size)) nlr _ _⟩
theorem u0p (w:World):(Instr.index 150 (.agg z7k) (.int .i64 1)).run prog w=.ok (.agg ring1) w:=by kernel_rfl
theorem of_1 (w:World):Calls prog 97 #[.int .i64 1] w (OfEnd ring1 true w) :=
 v0j 1 z7k ring1 w (by decide) (by decide) rfl (by decide +kernel) y3v u0p
theorem u0w (w:World):(Instr.index 150 (.agg z7k) (.int .i64 2)).run prog w=.ok (.agg ring2) w:=by kernel_rfl
theorem of_2 (w:World):Calls prog 97 #[.int .i64 2] w (OfEnd ring2 true w) :=
 v0j 2 z7k ring2 w (by decide) (by decide) rfl (by decide +kernel) y3v u0w
theorem u0f (w:World):(Instr.index 150 (.agg z7k) (.int .i64 3)).run prog w=.ok (.agg ring3) w:=by kernel_rfl
theorem of_3 (w:World):Calls prog 97 #[.int .i64 3] w (OfEnd ring3 true w) :=
 v0j 3 z7k ring3 w (by decide) (by decide) rfl (by decide +kernel) y3v u0f
end
section
open Go.RowKit
theorem z2z:infS.toList=[105,110,102]:=by rw[Lib.toList_data];rfl
theorem z5u:lowS.toList=[45,105,110,102]:=by rw[Lib.toList_data];rfl
theorem z8y {q:Rat} (h:fitQ q):((txt q).toList==[105,110,102])=false:=by
 refine z4n (l:=[105,110,102]) (fun e=>?_);have:=z2k h;rw[e] at this;have c:=y8q;unfold infS at c;rw[show str [105,110,102]=(⟨#[105,110,102]⟩:ByteArray) from rfl,c] at this;simp at this
theorem y6j {q:Rat} (h:fitQ q):((txt q).toList==[45,105,110,102])=false:=by
 refine z4n (l:=[45,105,110,102]) (fun e=>?_);have:=z2k h;rw[e] at this;have c:=y3p;unfold lowS at c;rw[show str [45,105,110,102]=(⟨#[45,105,110,102]⟩:ByteArray) from rfl,c] at this;simp at this
theorem x9c {x y:Rat} (d:fitQ x) (c:fitQ y):y3x (txt x) (txt y)=cmpQ x y:=by unfold y3x;rw[z2k d,z2k c]
theorem z4u (v u:V) (w:World) (p:fitV v) (A:fitV u) (T:Tab w):Calls prog 184 #[.string (vtxt v),.string (vtxt u)] w (IntEnd (cmpV v u) w):=by
 have F:∀ (a b:ByteArray) (z:Int) (i:z=0/\a=b\/a≠b) (c:a≠b->a≠infS->a≠lowS->b≠infS->b≠lowS->Calls prog 195 #[.string a,.string b] w (IntEnd z w))
   (o:a≠b->((a=lowS\/b=infS)/\z=-1)\/(a≠lowS/\b≠infS/\(b=lowS\/a=infS)/\z=1)\/(a≠lowS/\b≠infS/\b≠lowS/\a≠infS)),
   Calls prog 184 #[.string a,.string b] w (IntEnd z w):=by
  intro a b z i c o
  rcases i with ⟨rfl,rfl⟩|i
  ·clear c o
   go_enter func184,ntmps184
   go_wp2;go_ret;exact⟨rfl,blr⟩
  have U:(a.toList==b.toList)=false:=by rw[beq_eq_false_iff_ne];exact x9p i
  have Q:∀ s:ByteArray,s≠lowS->(s.toList==[45,105,110,102])=false:=fun s h=>z4n (l:=[45,105,110,102]) h;have O:∀ s:ByteArray,s≠infS->(s.toList==[105,110,102])=false:=fun s h=>z4n (l:=[105,110,102]) h;have D:=qh Q;clear Q;have G:=qh O;clear O
  rcases o i with ⟨d,rfl⟩|⟨d,k,m,rfl⟩|⟨d,k,m,B⟩
  ·clear c o;by_cases g:a=lowS
   ·have K:(a.toList==[45,105,110,102])=true:=by rw[g,z5u];rfl
    clear i d g
    go_enter func184,ntmps184
    go_wp2;go_ret;exact⟨rfl,blr⟩
   have K:=D.out a g;have N:(b.toList==[105,110,102])=true:=by rw[d.resolve_left g,z2z];rfl
   clear i d g
   go_enter func184,ntmps184
   go_wp2;go_ret;exact⟨rfl,blr⟩
  ·clear c o;have K:=D.out a d;have N:=G.out b k;by_cases j:b=lowS
   ·have R:(b.toList==[45,105,110,102])=true:=by rw[j,z5u];rfl
    cases L:(a.toList==[105,110,102])
    all_goals
     clear i d k m j
     go_enter func184,ntmps184
     go_wp2;go_ret;exact⟨rfl,blr⟩
   have R:=D.out b j;have L:(a.toList==[105,110,102])=true:=by rw[m.resolve_left j,z2z];rfl
   clear i d k m j
   go_enter func184,ntmps184
   go_wp2;go_ret;exact⟨rfl,blr⟩
  have K:=D.out a d;have N:=G.out b k;have R:=D.out b m;have L:=G.out a B;have C:=qh (c i B d k m);clear c o i d k m B
  go_enter func184,ntmps184
  go_wp2_with fail
  refine nxa C.out fun W S=>?_;go_wp2;go_ret;exact⟨rfl,S.out⟩
 refine F _ _ _ ?_ ?_ ?_
 ·by_cases h:v=u
  ·subst h;exact .inl ⟨(y3q v v).2 rfl,rfl⟩
  exact .inr (fun e=>h (x6e p A e))
 ·intro _ d k m B;cases v with
  | inf=>exact absurd rfl d
  | low=>exact absurd rfl k
  | fin x =>
   cases u with
   | inf=>exact absurd rfl m
   | low=>exact absurd rfl B
   | fin y =>
    have P:=y8e (txt x) (txt y) w (by have:=z3c p;omega) (by have:=z3c A;omega) T;rw[x9c p A] at P;exact P
 intro h;have E:infS≠lowS:=by decide
 have H:∀ q:Rat,fitQ q->txt q≠infS:=fun q J e=>by have:=z8y J;rw[e,z2z] at this;simp at this
 have I:∀ q:Rat,fitQ q->txt q≠lowS:=fun q J e=>by have:=y6j J;rw[e,z5u] at this;simp at this
 cases v with
 | inf =>
  cases u with
  | inf=>exact absurd rfl h
  | low=>exact .inr (.inl ⟨E,Ne.symm E,.inl rfl,rfl⟩)
  | fin y=>exact .inr (.inl ⟨E,H y A,.inr rfl,rfl⟩)
 | low =>
  cases u with
  | inf=>exact .inl ⟨.inl rfl,rfl⟩
  | low=>exact absurd rfl h
  | fin y=>exact .inl ⟨.inl rfl,rfl⟩
 | fin x =>
  cases u with
  | inf=>exact .inl ⟨.inr rfl,rfl⟩
  | low=>exact .inr (.inl ⟨I x p,Ne.symm E,.inl rfl,rfl⟩)
  | fin y=>exact .inr (.inr ⟨I x p,H y A,I y A,H x p⟩)
end
end Go.Proofs.YteappjogmnogcaaGreatDoor
