/- Parts. -/
import Derived.Test.YtpldocnhbdlgfaaGreatDoorPa05
import Derived.Test.YtpldocnhbdlgfaaGreatDoorPa04
import Derived.Laws.EntriesVeiled
import Derived.Deep.WholeRow
namespace Go.Proofs.YtpldocnhbdlgfaaGreatDoor
set_option maxRecDepth 100000
set_option linter.all false
set_option maxHeartbeats 16000000
open Go Tryz
section
open Go.RowKit
theorem RD(w:World):(Instr.typeAssert .nilIface 20 209 true).run prog w=.ok (.tuple #[.agg #[],.bool false]) w:=by kernel_rfl
theorem RB(w:World):(Instr.typeAssert (.iface 209 (.agg #[])) 20 209 true).run prog w=.ok (.tuple #[.agg #[],.bool true]) w:=by kernel_rfl
def Sb(p q:Addr)(w:World):
  CallsD prog 227 #[.pointer (some p),.pointer (some q)] .returning w λe u' w'=>e=.returned (.tuple #[])/\u'=.returning/\Below w.heap.size w w':=by
 have d:Below w.heap.size w (w.alloc (.cells #[] 209)):=blr.alloc nlr _;refine callsD_of_wpS func227 rfl λi h g=>?_;simp only[ntmps227,List.size_toArray,List.length_cons,List.length_nil,Nat.reduceAdd,Nat.reduceSub,Array.replicate_succ,
   Array.replicate_zero,List.push_toArray,List.append_toArray,List.nil_append,List.cons_append]
 apply wpS_seq
 apply wpS_region
 simp[wpOpsS,go_sem,recoverD,g,Exit.thenS,RD];refine wpS_of_wp ?_;go_wp2;refine⟨rfl,.returning,?_,.tuple #[],?_,rfl,rfl,d⟩
 ·rw[<-g]
 exact results_none rfl _ _ _
def Sc(b c:Nat)(w:World)(s:ByteArray)(n:Int)(z:w.cell? (Ad b 0)=some (.string s))(A:w.cell? (Ad c 0)=some (.int .i64 n))(F:w.frozen? (Ad b 0)=false)(G:w.frozen? (Ad c 0)=false)(hb:b<w.heap.size)(u:c<w.heap.size)(d:¬b=c):
  CallsD prog 227 #[.pointer (some (Ad b 0)),.pointer (some (Ad c 0))] (.panicking ({ v:=.iface 209 (.agg #[]),recovered:=false }::[])) w λe u' w' =>
   e=.returned (.tuple #[])/\u'=.panicking ({ v:=.iface 209 (.agg #[]),recovered:=true }::[])/\w'.cell? (Ad b 0)=some (.string ⟨#[]⟩)/\w'.cell? (Ad c 0)=some (.int .i64 2)/\
    ∀B a,Below B a w->B<=b->B<=c->Below B a w':=by
 refine callsD_of_wpS func227 rfl λE D C=>?_;simp only[ntmps227,List.size_toArray,List.length_cons,List.length_nil,Nat.reduceAdd,Nat.reduceSub,Array.replicate_succ,
   Array.replicate_zero,List.push_toArray,List.append_toArray,List.nil_append,List.cons_append]
 apply wpS_seq
 apply wpS_region
 simp[wpOpsS,go_sem,recoverD,C,Exit.thenS,RB];refine wpS_of_wp ?_;go_wp2;have i:(w.setCell (Ad b 0) (.string ⟨#[]⟩)).cell? (Ad b 0)=some (.string ⟨#[]⟩):=World.cell?_setCell_same _ _ _ z;have j:(w.setCell (Ad b 0) (.string ⟨#[]⟩)).cell? (Ad c 0)=some (.int .i64 n):=(World.cell?_setCell_other _ (Ad b 0) (Ad c 0) _ (λe=>d (by injection e))).trans A;have k:=World.cell?_setCell_same _ _ (.int .i64 2) j;have l:=(World.cell?_setCell_other _ (Ad c 0) (Ad b 0) (.int .i64 2) (λe=>d (by injection e with e _;exact e.symm))).trans i;have g:∀(x y:Value),((w.setCell (Ad b 0) x).setCell (Ad c 0) y).heap.size=w.heap.size:=λx y=>by simp
 refine⟨rfl,.panicking [{ v:=.iface 209 (.agg #[]),recovered:=true }],rfl,.tuple #[],results_none rfl _ _ _,rfl,rfl,?_,?_,?_⟩
 ·rw[World.cell?_alloc_past (hn:=by rw[g];exact hb)];exact l
 ·rw[World.cell?_alloc_past (hn:=by rw[g];exact u)];exact k
 intro B a h m o;have p:B<=w.heap.size:=by omega
 exact((h.setCell m _).setCell o _).alloc (by rw[g];exact p) _
def Qi{w wk:World}{a b:Value}{t u:TypeId}(h:Below ((w.alloc (.cells #[a] t)).alloc (.cells #[b] u)).heap.size ((w.alloc (.cells #[a] t)).alloc (.cells #[b] u)) wk):
  wk.cell? (Ad w.heap.size 0)=some a/\wk.cell? (Ad (w.heap.size+1) 0)=some b/\wk.frozen? (Ad w.heap.size 0)=false/\wk.frozen? (Ad (w.heap.size+1) 0)=false/\w.heap.size+1<wk.heap.size:=by
 have g:=h.size;have e:((w.alloc (.cells #[a] t)).alloc (.cells #[b] u)).heap.size=w.heap.size+1+1:=by simp
 rw[e]at g;have c:w.heap.size<((w.alloc (.cells #[a] t)).alloc (.cells #[b] u)).heap.size:=by rw[e];omega
 have d:w.heap.size+1<((w.alloc (.cells #[a] t)).alloc (.cells #[b] u)).heap.size:=by rw[e];omega
 refine⟨?_,?_,?_,?_,by omega⟩
 ·exact(h.cell (p:=(Ad w.heap.size 0)) c).trans (by simp[go_sem])
 ·exact(h.cell (p:=(Ad (w.heap.size+1) 0)) d).trans (by simp[go_sem])
 ·exact(h.frozen (p:=(Ad w.heap.size 0)) c).trans (by simp[go_sem])
 exact(h.frozen (p:=(Ad (w.heap.size+1) 0)) d).trans (by simp[go_sem])
def TD:∀args w,(callFunc 211 args).run prog w=.ok (.enter 211 args) w:=λargs w=>by kernel_rfl
def Oq{fn:Func}{p u:Tmp}(h:fn.results=#[.cell p 9,.cell u 32])(d:Array Value)(W:World)(b c:Nat)(s:ByteArray)(n:Int)
  (j:d.getD p undef=.pointer (some (Ad b 0))) (k:d.getD u undef=.pointer (some (Ad c 0))) (c0:W.cell? (Ad b 0)=some (.string s)) (c1:W.cell? (Ad c 0)=some (.int .i64 n)) :
  (results fn d).run prog W=.ok (.tuple #[.string s,.int .i64 n]) W:=by
 have g:d[p]?.getD undef=.pointer (some (Ad b 0)):=by rw[<-j];simp
 have i:d[u]?.getD undef=.pointer (some (Ad c 0)):=by rw[<-k];simp
 simp only[results,h];simp[g,i,go_sem,c0,c1]
theorem YZ(j:Array Value)(q:Rat)(w:World)(i:∀wx,Below w.heap.size w wx->Calls prog 211 j wx (QEnd q wx)):
  Calls prog 210 #[.func (.func 211) #[] j] w (PairEnd (limR q) w):=by
 have K:∀(fn:Fn) (first cap:Array Value) (w:World),(Instr.makeFunc fn first cap).run prog w=.ok (.func fn first cap) w:=λ_ _ _ _=>rfl
 have J:=TD;have c:Below w.heap.size w ((w.alloc (.cells #[.string ⟨#[]⟩] 9)).alloc (.cells #[.int .i64 0] 32)):=(blr.alloc nlr _).alloc (by simp) _;replace c:=qh c;replace i:=qh i;by_cases hf:fitQ q
 ·rw[CZ hf];have s:=qh hf;clear hf
  go_enter_defers func210,ntmps210
  go_wp2_with fail
  have g:=i.o _ c.o;unfold QEnd at g;rw[ifp s.o]at g;refine g.mono ?_;clear g;rintro e F⟨rfl,d⟩;have h:=qh d;clear d
  go_wp2_with fail
  refine(Vt q F s.o).mono ?_;rintro e o⟨rfl,m⟩;have l:=qh<|Ag h.o m;clear m;obtain⟨B,k1,D,E,k⟩:=Qi l.o
  go_wp2_with fail
  have u:=World.cell?_setCell_same _ _ (.string (txt q)) B;have z:=(World.cell?_setCell_other o (Ad w.heap.size 0) (Ad (w.heap.size+1) 0) (.string (txt q)) (λe=>by injection e;omega)).trans k1;have G:=World.cell?_setCell_same _ _ (.int .i64 0) z;have H:=(World.cell?_setCell_other (o.setCell (Ad w.heap.size 0) (.string (txt q))) (Ad (w.heap.size+1) 0) (Ad w.heap.size 0) (.int .i64 0) (λe=>by injection e;omega)).trans u;have A:((o.setCell (Ad w.heap.size 0) (.string (txt q))).setCell (Ad (w.heap.size+1) 0) (.int .i64 0)).heap.size=o.heap.size:=by simp
  refine leaves_cons (f:=227) (args:=#[.pointer (some (Ad w.heap.size 0)),.pointer (some (Ad (w.heap.size+1) 0))]) (by simp) (by simp[go_sem]) ?_;refine(Sb _ _ _).mono ?_;rintro e L C⟨rfl,rfl,hb⟩;refine⟨_,Oq rfl _ _ w.heap.size (w.heap.size+1) (txt q) 0 rfl rfl ?_ ?_,rfl,?_⟩
  ·exact(hb.cell (p:=(Ad w.heap.size 0)) (by rw[A];show w.heap.size<_;omega)).trans H
  ·exact(hb.cell (p:=(Ad (w.heap.size+1) 0)) (by rw[A];exact k)).trans G
  have I:Below w.heap.size w o:=Ag c.o l.o;exact((I.setCell nlr _).setCell (Nat.le_succ _) _).trans (hb.mono (by rw[A];omega))
 rw[Np hf];have s:=qh hf;clear hf
 go_enter_defers func210,ntmps210
 go_wp2_with fail
 have g:=i.o _ c.o;unfold QEnd at g;rw[ifn s.o]at g;unfold PT at g;refine g.mono ?_;clear g;rintro e F⟨rfl,d⟩;have h:=qh d;clear d;obtain⟨B,k1,D,E,k⟩:=Qi h.o;refine leaves_cons (f:=227) (args:=#[.pointer (some (Ad w.heap.size 0)),.pointer (some (Ad (w.heap.size+1) 0))]) (by simp) (by simp[go_sem]) ?_;refine(Sc _ _ _ _ _ B k1 D E (by omega) k (by omega)).mono ?_;rintro e L C⟨rfl,rfl,u,z,hb⟩;exact⟨_,Oq rfl _ _ w.heap.size (w.heap.size+1) ⟨#[]⟩ 2 rfl rfl u z,rfl,hb _ _ (Ag c.o h.o) nlr (Nat.le_succ _)⟩
def Sy(g:FuncId)(p q:Bool)(o m u s:ByteArray)(E:Ending)(l j k:Nat)(w:World)(z:(∃r x y,E=.returned (.agg #[.bool r,.string x,.string y]))\/E=PT)
  (O:∀args w,(callFunc g args).run prog w=.ok (.enter g args) w) (P:l<w.heap.size) (Q:j<w.heap.size) (R:k<w.heap.size)
  (c0:w.cell? (Ad l 0)=some (.func (.func g) #[] #[])) (D:w.cell? (Ad j 0)=some (.bool p)) (F:w.cell? (Ad j 1)=some (.string o)) (G:w.cell? (Ad j 2)=some (.string m))
  (H:w.cell? (Ad k 0)=some (.bool q)) (I:w.cell? (Ad k 1)=some (.string u)) (J:w.cell? (Ad k 2)=some (.string s))
  (d:∀wx,Below w.heap.size w wx->Calls prog g #[nvS p o m,nvS q u s] wx λe w'=>e=E/\Below wx.heap.size wx w') :
  Calls prog 211 #[.pointer (some (Ad l 0)),.pointer (some (Ad j 0)),.pointer (some (Ad k 0))] w λe w'=>e=E/\Below w.heap.size w w':=by
 unfold nvS at d;replace d:=qh d;have c:Below w.heap.size w (w.alloc (.cells #[.bool false,.string ⟨#[]⟩,.string ⟨#[]⟩] 180)):=blr.alloc nlr _;replace c:=qh c
 rcases z with⟨r,x,y,rfl⟩|rfl
 ·go_enter func211,ntmps211
  go_wp2_with fail
  refine(d.o _ c.o).mono ?_;rintro e C⟨rfl,h⟩;have i:=qh h;clear h;obtain⟨B,k1,k2,K,L,N,A⟩:=res3 i.o;obtain⟨s0,s1,s2⟩:=set3 (a':=.bool r) (b':=.string x) (c':=.string y) B k1 k2
  go_wp2_with fail
  exact bodyPost_ret (Ec rfl _ _ w.heap.size r x y rfl s0 s1 s2) rfl ⟨rfl,(((Ag c.o i.o).setCell nlr _).setCell nlr _).setCell nlr _⟩
 unfold PT at d ⊢
 go_enter func211,ntmps211
 go_wp2_with fail
 refine(d.o _ c.o).mono ?_;rintro e C⟨rfl,h⟩;have i:=qh h;clear h
 go_wp2_with fail
 exact⟨rfl,rfl,Ag c.o i.o⟩
def qE(q:Rat):(∃r x y,(if fitQ q then .returned (nv q) else PT)=Ending.returned (.agg #[.bool r,.string x,.string y]))\/(if fitQ q then .returned (nv q) else PT)=PT:=by
 by_cases h:fitQ q
 ·rw[ifp h];exact .inl ⟨_,_,_,rfl⟩
 rw[ifn h];exact .inr rfl
def okR(F:Rat->Rat->Rat)(a b:ByteArray):ByteArray × Nat:=match prs a,prs b with|some x,some y=>limR (F x y)|_,_=>(str [],1)
def FJ(g:FuncId)(F:Rat->Rat->Rat)(a b:ByteArray)(w:World)(R:a.size<=9223372036854775807)(hb:b.size<=9223372036854775807)(S:Tab w)
  (P:∀args w,(callFunc g args).run prog w=.ok (.enter g args) w)
  (z:∀x y,prs a=some x->prs b=some y->∀wx,Below w.heap.size w wx->Calls prog g #[nv x,nv y] wx (QEnd (F x y) wx)) :
  Calls prog 178 #[.string a,.string b,.func (.func g) #[] #[]] w (PairEnd (okR F a b) w):=by
 have U:∀(fn:Fn) (first cap:Array Value) (w:World),(Instr.makeFunc fn first cap).run prog w=.ok (.func fn first cap) w:=λ_ _ _ _=>rfl
 have O:∀wx,Below w.heap.size w wx->Tab wx:=λwx h=>S.below h nlr;have c1:=λwx (h:Below w.heap.size w wx)=>Gh a wx R (O wx h);have c2:=λwx (h:Below w.heap.size w wx)=>Gh b wx hb (O wx h);replace P:=qh P;have u:=qh z;clear z;clear O S R hb;have d:Below w.heap.size w (w.alloc (.cells #[.func (.func g) #[] #[]] 190)):=blr.alloc nlr _;replace d:=qh d;cases B:prs a with
 |none =>
  have D:okR F a b=(str [],1):=by unfold okR;rw[B]
  rw[D];simp only[B,Option.isSome,prsV]at c1;clear D u B;have E:=qh c1;clear c1;generalize (prs b).isSome=o at c2;obtain⟨r,x,y,T⟩:=Kr<|prs b;rw[T]at c2;clear T;have G:=qh c2;clear c2;unfold NoNum nvS at E
  go_enter func178,ntmps178
  go_wp2_with fail
  refine(E.o _ d.o).mono ?_;rintro e A⟨rfl,c⟩;have k:=qh<|(Ag d.o c).alloc (Nat.le_trans d.o.size c.size) (.cells #[.bool false,.string ⟨#[]⟩,.string ⟨#[]⟩] 180);clear c
  go_wp2_with fail
  refine(G.o _ k.o).mono ?_;rintro e C⟨rfl,j⟩;have l:=qh<|Ag k.o j;clear j;go_wp2;go_ret2;exact⟨rfl,l.o.alloc l.o.size _⟩
 |some x =>
  simp only[B,Option.isSome,prsV]at c1;have E:=qh c1;clear c1;cases J:prs b with
  |none =>
   have D:okR F a b=(str [],1):=by unfold okR;rw[B,J]
   rw[D];simp only[J,Option.isSome,prsV]at c2;clear D u B J;have G:=qh c2;clear c2;unfold nv nvS at E;unfold NoNum nvS at G
   go_enter func178,ntmps178
   go_wp2_with fail
   refine(E.o _ d.o).mono ?_;rintro e A⟨rfl,c⟩;have k:=qh<|(Ag d.o c).alloc (Nat.le_trans d.o.size c.size) (.cells #[.bool (negQ x),.string (str (dec x.num.natAbs)),.string (str (dec x.den))] 180);clear c
   go_wp2_with fail
   refine(G.o _ k.o).mono ?_;rintro e C⟨rfl,j⟩;have l:=qh<|Ag k.o j;clear j;go_wp2;go_ret2;exact⟨rfl,l.o.alloc l.o.size _⟩
  |some y =>
   have D:okR F a b=limR (F x y):=by unfold okR;rw[B,J]
   rw[D];simp only[J,Option.isSome,prsV]at c2;have z:=λwx h=>u.o x y B J wx h;clear D u B J;have u:=qh z;clear z;have G:=qh c2;clear c2;unfold nv nvS at E G
   go_enter func178,ntmps178
   go_wp2_with fail
   refine(E.o _ d.o).mono ?_;rintro e A⟨rfl,c⟩;have K:=qh c;have k:=qh<|(Ag d.o c).alloc (Nat.le_trans d.o.size c.size) (.cells #[.bool (negQ x),.string (str (dec x.num.natAbs)),.string (str (dec x.den))] 180);clear c
   go_wp2_with fail
   refine(G.o _ k.o).mono ?_;rintro e C⟨rfl,j⟩;have H:=qh j;have l:=qh<|(Ag k.o j).alloc (Nat.le_trans k.o.size j.size) (.cells #[.bool (negQ y),.string (str (dec y.num.natAbs)),.string (str (dec y.den))] 180);clear j
   go_wp2_with fail
   refine(YZ _ (F x y) _ (λwx h=>?_)).mono ?_
   ·have z0:=K.o.size;have Y:=H.o.size;have Z:=h.size;rw[World.size_alloc]at z0 Y Z;have s0:w.heap.size<(w.alloc (.cells #[.func (.func g) #[] #[]] 190)).heap.size:=by rw[World.size_alloc];omega
    have s1:∀o,A.heap.size<(A.alloc o).heap.size:=λo=>by rw[World.size_alloc];omega
    have s2:∀o,C.heap.size<(C.alloc o).heap.size:=λo=>by rw[World.size_alloc];omega
    have I:wx.cell? (Ad w.heap.size 0)=some (.func (.func g) #[] #[]):=by
     refine(h.cell (p:=(Ad w.heap.size 0)) (by rw[World.size_alloc];show w.heap.size<_;omega)).trans ?_;rw[World.cell?_alloc_past (hn:=by omega)];refine(H.o.cell (p:=(Ad w.heap.size 0)) (by rw[World.size_alloc];show w.heap.size<_;omega)).trans ?_;rw[World.cell?_alloc_past (hn:=by omega)];refine(K.o.cell (p:=(Ad w.heap.size 0)) s0).trans ?_;simp[go_sem]
    have m:∀(i:Nat) (v:Value),(A.alloc (.cells #[.bool (negQ x),.string (str (dec x.num.natAbs)),.string (str (dec x.den))] 180)).cell? (Ad A.heap.size i)=some v->wx.cell? (Ad A.heap.size i)=some v:=by
     intro i v Q;refine(h.cell (p:=(Ad A.heap.size i)) (by rw[World.size_alloc];show A.heap.size<_;omega)).trans ?_;rw[World.cell?_alloc_past (hn:=by omega)];exact(H.o.cell (p:=(Ad A.heap.size i)) (s1 _)).trans Q
    have s:∀(i:Nat) (v:Value),(C.alloc (.cells #[.bool (negQ y),.string (str (dec y.num.natAbs)),.string (str (dec y.den))] 180)).cell? (Ad C.heap.size i)=some v->wx.cell? (Ad C.heap.size i)=some v:=by
     intro i v Q;exact(h.cell (p:=(Ad C.heap.size i)) (s2 _)).trans Q
    exact Sy g _ _ _ _ _ _ _ w.heap.size A.heap.size C.heap.size wx (qE (F x y)) P.o (by omega) (by omega) (by omega) I
     (m 0 _ (by simp[go_sem])) (m 1 _ (by simp[go_sem])) (m 2 _ (by simp[go_sem])) (s 0 _ (by simp[go_sem])) (s 1 _ (by simp[go_sem])) (s 2 _ (by simp[go_sem]))
     (λX W=>u.o X ((Ag l.o h).trans (W.mono (Ag l.o h).size)))
   rintro e w3⟨rfl,L⟩;have N:=qh<|Ag l.o L;clear L;generalize limR (F x y)=lr at *;obtain⟨ls,ln⟩:=lr;go_wp2;go_ret2;exact⟨rfl,N.o⟩
end
section
open Go.RowKit
attribute [local go_sem ↓] Go.wp_at_zero Go.wp_at_succ
def Rk(p q:Bool)(h k i l a b c d:ByteArray)(s:Bool)(E:Ending)(w:World)(P:(∃r x y,E=.returned (.agg #[.bool r,.string x,.string y]))\/E=PT)
  (c1:∀wx,Below w.heap.size w wx->Calls prog 166 #[.string h,.string l] wx (StrZ a wx))
  (c2:∀wx,Below w.heap.size w wx->Calls prog 166 #[.string i,.string k] wx (StrZ b wx))
  (c3:∀wx,Below w.heap.size w wx->Calls prog 164 #[.bool p,.string a,.bool q,.string b] wx λe w'=>e=.returned (.tuple #[.bool s,.string c])/\Below wx.heap.size wx w')
  (c4:∀wx,Below w.heap.size w wx->Calls prog 166 #[.string k,.string l] wx (StrZ d wx))
  (c5:∀wx,Below w.heap.size w wx->Calls prog 180 #[.bool s,.string c,.string d] wx λe w'=>e=E/\Below wx.heap.size wx w') :
  Calls prog 179 #[nvS p h k,nvS q i l] w λe w'=>e=E/\Below w.heap.size w w':=by
 replace c1:=qh c1;replace c2:=qh c2;replace c3:=qh c3;replace c4:=qh c4;replace c5:=qh c5;have g:=qh<|GQ p q h k i l w;have Q:Below (WR p q h k i l w).heap.size (WR p q h k i l w) (WR p q h k i l w).drew:=blr.drew;unfold nvS
 rcases P with⟨r,x,y,rfl⟩|rfl
 ·
  go_enter func179,ntmps179
  go_wp2_with fail
  change Code.wp _ _ _ _ (WR p q h k i l w)
  go_region_held2 (λj=>Below (WR p q h k i l w).heap.size (WR p q h k i l w) j/\
   j.cell? (Ad w.heap.size 0)=some (.bool p)/\j.cell? (Ad w.heap.size 1)=some (.string h)/\j.cell? (Ad w.heap.size 2)=some (.string k)/\
   j.cell? (Ad (w.heap.size+1) 0)=some (.bool q)/\j.cell? (Ad (w.heap.size+1) 1)=some (.string i)/\j.cell? (Ad (w.heap.size+1) 2)=some (.string l))
   (first|exact DR (by assumption)|exact DR blr.drew)
   (first
   |(go_at_call_of 166 (Value.string h);refine(c1.o _ (Ag g.o (by assumption))).mono ?_;rintro e S⟨rfl,z⟩;have G:=Ag (by assumption) z)
   |(go_at_call_of 166 (Value.string i);refine(c2.o _ (Ag g.o (by assumption))).mono ?_;rintro e T⟨rfl,A⟩;have H:=Ag (by assumption) A)
   |(go_at_call 165;refine(Ba _ _).mono ?_;rintro e w'⟨rfl,rfl⟩)
   |(go_at_call 164;refine(c3.o _ (Ag g.o (by assumption))).mono ?_;rintro e U⟨rfl,B⟩;have m:=Ag (by assumption) B))
  rename_i F;obtain⟨_,I,J,K,L,N,O⟩:=F
  go_wp2_with fail
  refine(c4.o _ (Ag g.o m)).mono ?_;rintro e W⟨rfl,C⟩;have o:=Ag m C
  go_wp2_with fail
  refine(Ba _ _).mono ?_;rintro e w'⟨rfl,rfl⟩
  go_wp2_with fail
  refine(c5.o _ (Ag g.o o)).mono ?_;rintro e X⟨rfl,D⟩;have u:=Ag o D;obtain⟨R,k1,k2,Y,Z,f2⟩:=EO u;obtain⟨s0,s1,s2⟩:=set3 (a':=.bool r) (b':=.string x) (c':=.string y) R k1 k2
  go_wp2_with fail
  refine bodyPost_ret (Ec rfl _ _ (w.heap.size+1+1) r x y rfl s0 s1 s2) rfl ⟨rfl,(((Ag g.o u).setCell ?_ _).setCell ?_ _).setCell ?_ _⟩<;>(show w.heap.size<=w.heap.size+1+1;omega)
 unfold PT at c5 ⊢
 go_enter func179,ntmps179
 go_wp2_with fail
 change Code.wp _ _ _ _ (WR p q h k i l w)
 go_region_held2 (λj=>Below (WR p q h k i l w).heap.size (WR p q h k i l w) j/\
  j.cell? (Ad w.heap.size 0)=some (.bool p)/\j.cell? (Ad w.heap.size 1)=some (.string h)/\j.cell? (Ad w.heap.size 2)=some (.string k)/\
  j.cell? (Ad (w.heap.size+1) 0)=some (.bool q)/\j.cell? (Ad (w.heap.size+1) 1)=some (.string i)/\j.cell? (Ad (w.heap.size+1) 2)=some (.string l))
  (first|exact DR (by assumption)|exact DR blr.drew)
  (first
  |(go_at_call_of 166 (Value.string h);refine(c1.o _ (Ag g.o (by assumption))).mono ?_;rintro e S⟨rfl,z⟩;have G:=Ag (by assumption) z)
  |(go_at_call_of 166 (Value.string i);refine(c2.o _ (Ag g.o (by assumption))).mono ?_;rintro e T⟨rfl,A⟩;have H:=Ag (by assumption) A)
  |(go_at_call 165;refine(Ba _ _).mono ?_;rintro e w'⟨rfl,rfl⟩)
  |(go_at_call 164;refine(c3.o _ (Ag g.o (by assumption))).mono ?_;rintro e U⟨rfl,B⟩;have m:=Ag (by assumption) B))
 rename_i F;obtain⟨_,I,J,K,L,N,O⟩:=F
 go_wp2_with fail
 refine(c4.o _ (Ag g.o m)).mono ?_;rintro e W⟨rfl,C⟩;have o:=Ag m C
 go_wp2_with fail
 refine(Ba _ _).mono ?_;rintro e w'⟨rfl,rfl⟩
 go_wp2_with fail
 refine(c5.o _ (Ag g.o o)).mono ?_;rintro e X⟨rfl,D⟩;have u:=Ag o D
 go_wp2_with fail
 exact⟨rfl,rfl,Ag g.o u⟩
def XQ(p q:Bool)(h k i l a b c d:ByteArray)(s:Bool)(E:Ending)(w:World)(P:(∃r x y,E=.returned (.agg #[.bool r,.string x,.string y]))\/E=PT)
  (c1:∀wx,Below w.heap.size w wx->Calls prog 166 #[.string h,.string l] wx (StrZ a wx))
  (c2:∀wx,Below w.heap.size w wx->Calls prog 166 #[.string i,.string k] wx (StrZ b wx))
  (c3:∀wx,Below w.heap.size w wx->Calls prog 164 #[.bool p,.string a,.bool (!q),.string b] wx λe w'=>e=.returned (.tuple #[.bool s,.string c])/\Below wx.heap.size wx w')
  (c4:∀wx,Below w.heap.size w wx->Calls prog 166 #[.string k,.string l] wx (StrZ d wx))
  (c5:∀wx,Below w.heap.size w wx->Calls prog 180 #[.bool s,.string c,.string d] wx λe w'=>e=E/\Below wx.heap.size wx w') :
  Calls prog 213 #[nvS p h k,nvS q i l] w λe w'=>e=E/\Below w.heap.size w w':=by
 replace c1:=qh c1;replace c2:=qh c2;replace c3:=qh c3;replace c4:=qh c4;replace c5:=qh c5;have g:=qh<|GQ p q h k i l w;have Q:Below (WR p q h k i l w).heap.size (WR p q h k i l w) (WR p q h k i l w).drew:=blr.drew;unfold nvS
 rcases P with⟨r,x,y,rfl⟩|rfl
 ·
  go_enter func213,ntmps213
  go_wp2_with fail
  change Code.wp _ _ _ _ (WR p q h k i l w)
  go_region_held2 (λj=>Below (WR p q h k i l w).heap.size (WR p q h k i l w) j/\
   j.cell? (Ad w.heap.size 0)=some (.bool p)/\j.cell? (Ad w.heap.size 1)=some (.string h)/\j.cell? (Ad w.heap.size 2)=some (.string k)/\
   j.cell? (Ad (w.heap.size+1) 0)=some (.bool q)/\j.cell? (Ad (w.heap.size+1) 1)=some (.string i)/\j.cell? (Ad (w.heap.size+1) 2)=some (.string l))
   (first|exact DR (by assumption)|exact DR blr.drew)
   (first
   |(go_at_call_of 166 (Value.string h);refine(c1.o _ (Ag g.o (by assumption))).mono ?_;rintro e S⟨rfl,z⟩;have G:=Ag (by assumption) z)
   |(go_at_call_of 166 (Value.string i);refine(c2.o _ (Ag g.o (by assumption))).mono ?_;rintro e T⟨rfl,A⟩;have H:=Ag (by assumption) A)
   |(go_at_call 165;refine(Ba _ _).mono ?_;rintro e w'⟨rfl,rfl⟩)
   |(go_at_call 164;refine(c3.o _ (Ag g.o (by assumption))).mono ?_;rintro e U⟨rfl,B⟩;have m:=Ag (by assumption) B))
  rename_i F;obtain⟨_,I,J,K,L,N,O⟩:=F
  go_wp2_with fail
  refine(c4.o _ (Ag g.o m)).mono ?_;rintro e W⟨rfl,C⟩;have o:=Ag m C
  go_wp2_with fail
  refine(Ba _ _).mono ?_;rintro e w'⟨rfl,rfl⟩
  go_wp2_with fail
  refine(c5.o _ (Ag g.o o)).mono ?_;rintro e X⟨rfl,D⟩;have u:=Ag o D;obtain⟨R,k1,k2,Y,Z,f2⟩:=EO u;obtain⟨s0,s1,s2⟩:=set3 (a':=.bool r) (b':=.string x) (c':=.string y) R k1 k2
  go_wp2_with fail
  refine bodyPost_ret (Ec rfl _ _ (w.heap.size+1+1) r x y rfl s0 s1 s2) rfl ⟨rfl,(((Ag g.o u).setCell ?_ _).setCell ?_ _).setCell ?_ _⟩<;>(show w.heap.size<=w.heap.size+1+1;omega)
 unfold PT at c5 ⊢
 go_enter func213,ntmps213
 go_wp2_with fail
 change Code.wp _ _ _ _ (WR p q h k i l w)
 go_region_held2 (λj=>Below (WR p q h k i l w).heap.size (WR p q h k i l w) j/\
  j.cell? (Ad w.heap.size 0)=some (.bool p)/\j.cell? (Ad w.heap.size 1)=some (.string h)/\j.cell? (Ad w.heap.size 2)=some (.string k)/\
  j.cell? (Ad (w.heap.size+1) 0)=some (.bool q)/\j.cell? (Ad (w.heap.size+1) 1)=some (.string i)/\j.cell? (Ad (w.heap.size+1) 2)=some (.string l))
  (first|exact DR (by assumption)|exact DR blr.drew)
  (first
  |(go_at_call_of 166 (Value.string h);refine(c1.o _ (Ag g.o (by assumption))).mono ?_;rintro e S⟨rfl,z⟩;have G:=Ag (by assumption) z)
  |(go_at_call_of 166 (Value.string i);refine(c2.o _ (Ag g.o (by assumption))).mono ?_;rintro e T⟨rfl,A⟩;have H:=Ag (by assumption) A)
  |(go_at_call 165;refine(Ba _ _).mono ?_;rintro e w'⟨rfl,rfl⟩)
  |(go_at_call 164;refine(c3.o _ (Ag g.o (by assumption))).mono ?_;rintro e U⟨rfl,B⟩;have m:=Ag (by assumption) B))
 rename_i F;obtain⟨_,I,J,K,L,N,O⟩:=F
 go_wp2_with fail
 refine(c4.o _ (Ag g.o m)).mono ?_;rintro e W⟨rfl,C⟩;have o:=Ag m C
 go_wp2_with fail
 refine(Ba _ _).mono ?_;rintro e w'⟨rfl,rfl⟩
 go_wp2_with fail
 refine(c5.o _ (Ag g.o o)).mono ?_;rintro e X⟨rfl,D⟩;have u:=Ag o D
 go_wp2_with fail
 exact⟨rfl,rfl,Ag g.o u⟩
def Vh(p q:Bool)(h g j i a b:ByteArray)(E:Ending)(w:World)(F:(∃r x y,E=.returned (.agg #[.bool r,.string x,.string y]))\/E=PT)
  (c1:∀wx,Below w.heap.size w wx->Calls prog 166 #[.string h,.string j] wx (StrZ a wx))
  (c2:∀wx,Below w.heap.size w wx->Calls prog 166 #[.string g,.string i] wx (StrZ b wx))
  (c5:∀wx,Below w.heap.size w wx->Calls prog 180 #[.bool (p != q),.string a,.string b] wx λe w'=>e=E/\Below wx.heap.size wx w') :
  Calls prog 181 #[nvS p h g,nvS q j i] w λe w'=>e=E/\Below w.heap.size w w':=by
 replace c1:=qh c1;replace c2:=qh c2;replace c5:=qh c5;have c:=qh<|GQ p q h g j i w;have G:Below (WR p q h g j i w).heap.size (WR p q h g j i w) (WR p q h g j i w).drew:=blr.drew;unfold nvS
 rcases F with⟨r,x,y,rfl⟩|rfl
 ·
  go_enter func181,ntmps181
  go_wp2_with fail
  change Code.wp _ _ _ _ (WR p q h g j i w)
  go_region_held2 (λd=>Below (w.heap.size+1+1) (WR p q h g j i w) d/\
   d.cell? (Ad w.heap.size 0)=some (.bool p)/\d.cell? (Ad w.heap.size 1)=some (.string h)/\d.cell? (Ad w.heap.size 2)=some (.string g)/\
   d.cell? (Ad (w.heap.size+1) 0)=some (.bool q)/\d.cell? (Ad (w.heap.size+1) 1)=some (.string j)/\d.cell? (Ad (w.heap.size+1) 2)=some (.string i))
   (first|exact Cu (Cv (by assumption))|exact Cu (Cv blr.drew)|exact Cu ((((Cv (by assumption)).setCell nlr _).setCell nlr _).setCell nlr _))
   (first
   |(go_at_call_of 166 (Value.string h);refine(c1.o _ (Ag c.o (by assumption))).mono ?_;rintro e H⟨rfl,m⟩;have u:=Ag (by assumption) m)
   |(go_at_call_of 166 (Value.string g);refine(c2.o _ (Ag c.o (by assumption))).mono ?_;rintro e I⟨rfl,o⟩;have z:=Ag (by assumption) o)
   |(go_at_call 165;refine(Ba _ _).mono ?_;rintro e w'⟨rfl,rfl⟩)
   |(go_at_call 180;refine(c5.o _ (Ag c.o (by assumption))).mono ?_;rintro e J⟨rfl,s⟩;have k:=Ag (by assumption) s;obtain⟨A,k1,k2,B,C,D⟩:=EO k;obtain⟨s0,s1,s2⟩:=set3 (a':=.bool r) (b':=.string x) (c':=.string y) A k1 k2))
  go_wp2_with fail
  refine bodyPost_ret (Ec rfl _ _ (w.heap.size+1+1) r x y rfl s0 s1 s2) rfl ⟨rfl,(((Ag c.o k).setCell ?_ _).setCell ?_ _).setCell ?_ _⟩<;>(show w.heap.size<=w.heap.size+1+1;omega)
 unfold PT at c5 ⊢
 go_enter func181,ntmps181
 go_wp2_with fail
 change Code.wp _ _ _ _ (WR p q h g j i w)
 go_region_held2 (λd=>Below (w.heap.size+1+1) (WR p q h g j i w) d/\
  d.cell? (Ad w.heap.size 0)=some (.bool p)/\d.cell? (Ad w.heap.size 1)=some (.string h)/\d.cell? (Ad w.heap.size 2)=some (.string g)/\
  d.cell? (Ad (w.heap.size+1) 0)=some (.bool q)/\d.cell? (Ad (w.heap.size+1) 1)=some (.string j)/\d.cell? (Ad (w.heap.size+1) 2)=some (.string i))
  (first|exact Cu (Cv (by assumption))|exact Cu (Cv blr.drew)|exact Cu ((((Cv (by assumption)).setCell nlr _).setCell nlr _).setCell nlr _))
  (first
  |(go_at_call_of 166 (Value.string h);refine(c1.o _ (Ag c.o (by assumption))).mono ?_;rintro e H⟨rfl,m⟩;have u:=Ag (by assumption) m)
  |(go_at_call_of 166 (Value.string g);refine(c2.o _ (Ag c.o (by assumption))).mono ?_;rintro e I⟨rfl,o⟩;have z:=Ag (by assumption) o)
  |(go_at_call 165;refine(Ba _ _).mono ?_;rintro e w'⟨rfl,rfl⟩)
  |(go_at_call 180;refine(c5.o _ (Ag c.o (by assumption))).mono ?_;rintro e J⟨rfl,s⟩;have k:=Ag (by assumption) s;obtain⟨A,k1,k2,B,C,D⟩:=EO k;refine MO (by assumption) 26 (.agg #[.bool false,.string ⟨#[]⟩,.string ⟨#[]⟩]) ⟨rfl,rfl,Ag c.o k⟩ (λl=>?_)))
 exact l.o.elim
def Te(p q:Bool)(h g j i a b:ByteArray)(E:Ending)(w:World)(F:(∃r x y,E=.returned (.agg #[.bool r,.string x,.string y]))\/E=PT)
  (c1:∀wx,Below w.heap.size w wx->Calls prog 166 #[.string h,.string i] wx (StrZ a wx))
  (c2:∀wx,Below w.heap.size w wx->Calls prog 166 #[.string g,.string j] wx (StrZ b wx))
  (c5:∀wx,Below w.heap.size w wx->Calls prog 180 #[.bool (p != q),.string a,.string b] wx λe w'=>e=E/\Below wx.heap.size wx w') :
  Calls prog 214 #[nvS p h g,nvS q j i] w λe w'=>e=E/\Below w.heap.size w w':=by
 replace c1:=qh c1;replace c2:=qh c2;replace c5:=qh c5;have c:=qh<|GQ p q h g j i w;have G:Below (WR p q h g j i w).heap.size (WR p q h g j i w) (WR p q h g j i w).drew:=blr.drew;unfold nvS
 rcases F with⟨r,x,y,rfl⟩|rfl
 ·
  go_enter func214,ntmps214
  go_wp2_with fail
  change Code.wp _ _ _ _ (WR p q h g j i w)
  go_region_held2 (λd=>Below (w.heap.size+1+1) (WR p q h g j i w) d/\
   d.cell? (Ad w.heap.size 0)=some (.bool p)/\d.cell? (Ad w.heap.size 1)=some (.string h)/\d.cell? (Ad w.heap.size 2)=some (.string g)/\
   d.cell? (Ad (w.heap.size+1) 0)=some (.bool q)/\d.cell? (Ad (w.heap.size+1) 1)=some (.string j)/\d.cell? (Ad (w.heap.size+1) 2)=some (.string i))
   (first|exact Cu (Cv (by assumption))|exact Cu (Cv blr.drew)|exact Cu ((((Cv (by assumption)).setCell nlr _).setCell nlr _).setCell nlr _))
   (first
   |(go_at_call_of 166 (Value.string h);refine(c1.o _ (Ag c.o (by assumption))).mono ?_;rintro e H⟨rfl,m⟩;have u:=Ag (by assumption) m)
   |(go_at_call_of 166 (Value.string g);refine(c2.o _ (Ag c.o (by assumption))).mono ?_;rintro e I⟨rfl,o⟩;have z:=Ag (by assumption) o)
   |(go_at_call 165;refine(Ba _ _).mono ?_;rintro e w'⟨rfl,rfl⟩)
   |(go_at_call 180;refine(c5.o _ (Ag c.o (by assumption))).mono ?_;rintro e J⟨rfl,s⟩;have k:=Ag (by assumption) s;obtain⟨A,k1,k2,B,C,D⟩:=EO k;obtain⟨s0,s1,s2⟩:=set3 (a':=.bool r) (b':=.string x) (c':=.string y) A k1 k2))
  go_wp2_with fail
  refine bodyPost_ret (Ec rfl _ _ (w.heap.size+1+1) r x y rfl s0 s1 s2) rfl ⟨rfl,(((Ag c.o k).setCell ?_ _).setCell ?_ _).setCell ?_ _⟩<;>(show w.heap.size<=w.heap.size+1+1;omega)
 unfold PT at c5 ⊢
 go_enter func214,ntmps214
 go_wp2_with fail
 change Code.wp _ _ _ _ (WR p q h g j i w)
 go_region_held2 (λd=>Below (w.heap.size+1+1) (WR p q h g j i w) d/\
  d.cell? (Ad w.heap.size 0)=some (.bool p)/\d.cell? (Ad w.heap.size 1)=some (.string h)/\d.cell? (Ad w.heap.size 2)=some (.string g)/\
  d.cell? (Ad (w.heap.size+1) 0)=some (.bool q)/\d.cell? (Ad (w.heap.size+1) 1)=some (.string j)/\d.cell? (Ad (w.heap.size+1) 2)=some (.string i))
  (first|exact Cu (Cv (by assumption))|exact Cu (Cv blr.drew)|exact Cu ((((Cv (by assumption)).setCell nlr _).setCell nlr _).setCell nlr _))
  (first
  |(go_at_call_of 166 (Value.string h);refine(c1.o _ (Ag c.o (by assumption))).mono ?_;rintro e H⟨rfl,m⟩;have u:=Ag (by assumption) m)
  |(go_at_call_of 166 (Value.string g);refine(c2.o _ (Ag c.o (by assumption))).mono ?_;rintro e I⟨rfl,o⟩;have z:=Ag (by assumption) o)
  |(go_at_call 165;refine(Ba _ _).mono ?_;rintro e w'⟨rfl,rfl⟩)
  |(go_at_call 180;refine(c5.o _ (Ag c.o (by assumption))).mono ?_;rintro e J⟨rfl,s⟩;have k:=Ag (by assumption) s;obtain⟨A,k1,k2,B,C,D⟩:=EO k;refine MO (by assumption) 26 (.agg #[.bool false,.string ⟨#[]⟩,.string ⟨#[]⟩]) ⟨rfl,rfl,Ag c.o k⟩ (λl=>?_)))
 exact l.o.elim
end
section
open Go.RowKit
def Rj(x y:Rat)(w:World)(d:fitQ x)(g:fitQ y)(o:Tab w):Calls prog 179 #[nv x,nv y] w (QEnd (x+y) w):=by
 have i:∀c,Below w.heap.size w c->Tab c:=λc h=>o.below h nlr;have l:fits (x.num.natAbs*y.den):=Bo d.1 g.2;have m:fits (y.num.natAbs*x.den):=Bo g.1 d.2;have j:fits (x.num.natAbs*y.den+y.num.natAbs*x.den):=FN d.1 g.2 g.1 d.2;have k:fits (x.den*y.den):=Bo d.2 g.2;unfold QEnd;rw[LM x y];exact Rk (negQ x) (negQ y) _ _ _ _ (str (dec (x.num.natAbs*y.den))) (str (dec (y.num.natAbs*x.den))) _ (str (dec (x.den*y.den))) _ _ w (qE _)
  (λc h=>CG _ _ c (BC d) (AZ g) l (i c h)) (λc h=>CG _ _ c (BC g) (AZ d) m (i c h))
  (λc h=>Kz (negQ x) (negQ y) _ _ c j (i c h)) (λc h=>CG _ _ c (AZ d) (AZ g) k (i c h))
  (λc h=>Iu _ _ _ c (Cf j (Lb _ _ _ _)) k (Nat.mul_ne_zero x.den_nz y.den_nz) (i c h))
def XP(x y:Rat)(w:World)(d:fitQ x)(g:fitQ y)(o:Tab w):Calls prog 213 #[nv x,nv y] w (QEnd (x-y) w):=by
 have i:∀c,Below w.heap.size w c->Tab c:=λc h=>o.below h nlr;have l:fits (x.num.natAbs*y.den):=Bo d.1 g.2;have m:fits (y.num.natAbs*x.den):=Bo g.1 d.2;have j:fits (x.num.natAbs*y.den+y.num.natAbs*x.den):=FN d.1 g.2 g.1 d.2;have k:fits (x.den*y.den):=Bo d.2 g.2;unfold QEnd;rw[XO x y];exact XQ (negQ x) (negQ y) _ _ _ _ (str (dec (x.num.natAbs*y.den))) (str (dec (y.num.natAbs*x.den))) _ (str (dec (x.den*y.den))) _ _ w (qE _)
  (λc h=>CG _ _ c (BC d) (AZ g) l (i c h)) (λc h=>CG _ _ c (BC g) (AZ d) m (i c h))
  (λc h=>Kz (negQ x) (!negQ y) _ _ c j (i c h)) (λc h=>CG _ _ c (AZ d) (AZ g) k (i c h))
  (λc h=>Iu _ _ _ c (Cf j (Lb _ _ _ _)) k (Nat.mul_ne_zero x.den_nz y.den_nz) (i c h))
def Vg(x y:Rat)(w:World)(d:fitQ x)(g:fitQ y)(l:Tab w):Calls prog 181 #[nv x,nv y] w (QEnd (x*y) w):=by
 have i:∀c,Below w.heap.size w c->Tab c:=λc h=>l.below h nlr;have j:fits (x.num.natAbs*y.num.natAbs):=Bo d.1 g.1;have k:fits (x.den*y.den):=Bo d.2 g.2;unfold QEnd;rw[NN x y];exact Vh (negQ x) (negQ y) _ _ _ _ (str (dec (x.num.natAbs*y.num.natAbs))) (str (dec (x.den*y.den))) _ w (qE _)
  (λc h=>CG _ _ c (BC d) (BC g) j (i c h)) (λc h=>CG _ _ c (AZ d) (AZ g) k (i c h))
  (λc h=>Iu _ _ _ c j k (Nat.mul_ne_zero x.den_nz y.den_nz) (i c h))
def Td(x y:Rat)(w:World)(d:fitQ x)(g:fitQ y)(l:y≠0)(m:Tab w):Calls prog 214 #[nv x,nv y] w (QEnd (x / y) w):=by
 have i:∀c,Below w.heap.size w c->Tab c:=λc h=>m.below h nlr;have j:fits (x.num.natAbs*y.den):=Bo d.1 g.2;have k:fits (x.den*y.num.natAbs):=Bo d.2 g.1;unfold QEnd;rw[MH x y];exact Te (negQ x) (negQ y) _ _ _ _ (str (dec (x.num.natAbs*y.den))) (str (dec (x.den*y.num.natAbs))) _ w (qE _)
  (λc h=>CG _ _ c (BC d) (AZ g) j (i c h)) (λc h=>CG _ _ c (AZ d) (BC g) k (i c h))
  (λc h=>Iu _ _ _ c j k ((Nat.mul_ne_zero x.den_nz (λe=>l (Rat.num_eq_zero.1 (Int.natAbs_eq_zero.1 e))))) (i c h))
def Tz:∀args w,(callFunc 179 args).run prog w=.ok (.enter 179 args) w:=λargs w=>by kernel_rfl
def OD(a b:ByteArray)(w:World)(g:a.size<=9223372036854775807)(hb:b.size<=9223372036854775807)(d:Tab w):
  Calls prog 144 #[.string a,.string b] w (PairEnd (Bb a b) w):=by
 have c:=FJ 179 (λx y=>x+y) a b w g hb d Tz (λx y k l m h=>Rj x y m (AT k).2 (AT l).2 (d.below h nlr));have i:okR (λx y=>x+y) a b=Bb a b:=rfl;rw[i]at c;generalize Bb a b=r at *;obtain⟨rs,o⟩:=r;replace c:=qh c;clear i d g hb
 go_enter func144,ntmps144
 go_wp2_with fail
 refine c.o.mono ?_;rintro e p⟨rfl,hb⟩;have j:=qh hb;clear hb;go_wp2;go_ret2;exact⟨rfl,j.o⟩
def TG:∀args w,(callFunc 213 args).run prog w=.ok (.enter 213 args) w:=λargs w=>by kernel_rfl
def Wo(a b:ByteArray)(w:World)(g:a.size<=9223372036854775807)(hb:b.size<=9223372036854775807)(d:Tab w):
  Calls prog 182 #[.string a,.string b] w (PairEnd (Cb a b) w):=by
 have c:=FJ 213 (λx y=>x-y) a b w g hb d TG (λx y k l m h=>XP x y m (AT k).2 (AT l).2 (d.below h nlr));have i:okR (λx y=>x-y) a b=Cb a b:=rfl;rw[i]at c;generalize Cb a b=r at *;obtain⟨rs,o⟩:=r;replace c:=qh c;clear i d g hb
 go_enter func182,ntmps182
 go_wp2_with fail
 refine c.o.mono ?_;rintro e p⟨rfl,hb⟩;have j:=qh hb;clear hb;go_wp2;go_ret2;exact⟨rfl,j.o⟩
def TF:∀args w,(callFunc 181 args).run prog w=.ok (.enter 181 args) w:=λargs w=>by kernel_rfl
def OF(a b:ByteArray)(w:World)(g:a.size<=9223372036854775807)(hb:b.size<=9223372036854775807)(d:Tab w):
  Calls prog 148 #[.string a,.string b] w (PairEnd (BR a b) w):=by
 have c:=FJ 181 (λx y=>x*y) a b w g hb d TF (λx y k l m h=>Vg x y m (AT k).2 (AT l).2 (d.below h nlr));have i:okR (λx y=>x*y) a b=BR a b:=rfl;rw[i]at c;generalize BR a b=r at *;obtain⟨rs,o⟩:=r;replace c:=qh c;clear i d g hb
 go_enter func148,ntmps148
 go_wp2_with fail
 refine c.o.mono ?_;rintro e p⟨rfl,hb⟩;have j:=qh hb;clear hb;go_wp2;go_ret2;exact⟨rfl,j.o⟩
def Io(a:ByteArray)(w:World)(d:a.size<=9223372036854775807)(g:Tab w):
  Calls prog 146 #[.string a] w λe w'=>e=.returned (.bool (prs a).isSome)/\Below w.heap.size w w':=by
 have c:=Gh a w d g;obtain⟨r,x,y,h⟩:=Kr<|prs a;rw[h]at c;generalize (prs a).isSome=o at *;replace c:=qh c;clear h d g
 go_enter func146,ntmps146
 go_wp2_with fail
 refine c.o.mono ?_;rintro e w'⟨rfl,hb⟩;replace hb:=qh hb;go_wp2;go_ret;exact⟨rfl,hb.o⟩
theorem Gk:prs ⟨#[48]⟩=some 0:=by
 have:txt 0=⟨#[48]⟩:=by unfold txt txtL;rw[show negQ 0=false from rfl,show (0:Rat).num.natAbs=0 from rfl,show (0:Rat).den=1 from rfl,Cz];rfl
 rw[<-this];exact Bl (by unfold fitQ;rw[show (0:Rat).num.natAbs=0 from rfl,show (0:Rat).den=1 from rfl,Cz,Cd];decide)
def OC{b:ByteArray}(h:prs b=some 0):b=⟨#[48]⟩:=by
 have c:=(AT h).1;have d:=(AT Gk).1;rw[c,d]
theorem MM:∀args w,(callFunc 214 args).run prog w=.ok (.enter 214 args) w:=λargs w=>by kernel_rfl
def Wn(a b:ByteArray)(w:World)(k:a.size<=9223372036854775807)(hb:b.size<=9223372036854775807)(j:Tab w):
  Calls prog 183 #[.string a,.string b] w (PairEnd (Bq a b) w):=by
 have c1:=Io a w k j;by_cases m:b=⟨#[48]⟩
 ·subst m;cases d:prs a with
  |some x =>
   have g:Bq a ⟨#[48]⟩=(str [],4):=by unfold Bq;rw[d,Gk];simp
   rw[g];rw[d]at c1;simp only[Option.isSome]at c1;have l:=qh c1;clear c1 k hb j d g
   go_enter func183,ntmps183
   go_wp2_with fail
   refine l.o.mono ?_;rintro e J⟨rfl,hb⟩;have B:=qh hb;clear hb;go_wp2;go_ret2;exact⟨rfl,B.o⟩
  |none =>
   have g:Bq a ⟨#[48]⟩=(str [],1):=by unfold Bq;rw[d]
   rw[g];have c2:=λp (h:Below w.heap.size w p)=>FJ 214 (λx y=>x / y) a ⟨#[48]⟩ p k hb (j.below h nlr) MM (λx y s=>by rw[d]at s;simp at s);have z:okR (λx y=>x / y) a ⟨#[48]⟩=(str [],1):=by unfold okR;rw[d]
   rw[z]at c2;rw[d]at c1;simp only[Option.isSome]at c1;have l:=qh c1;have u:=qh c2;clear c1 c2 k hb j d g z
   go_enter func183,ntmps183
   go_wp2_with fail
   refine nxa l.o λF c=>?_
   go_wp2_with fail
   refine nxb (u.o _ c.o) c λG i=>?_;go_wp2;go_ret2;exact⟨rfl,i.o⟩
 have E:(b.toList==[48])=false:=BQ m;have c2:=λp (h:Below w.heap.size w p)=>FJ 214 (λx y=>x / y) a b p k hb (j.below h nlr) MM
  (λx y s A H D=>Td x y H (AT s).2 (AT A).2 (λe=>by subst e;exact m (OC A)) (j.below (h.trans (D.mono h.size)) nlr))
 have g:okR (λx y=>x / y) a b=Bq a b:=by
  unfold okR Bq;cases d:prs a with
  |none=>rfl
  |some x =>
   cases C:prs b with
   |none=>rfl
   |some y=>simp only;rw[ifn (λe=>by subst e;exact m (OC C))]
 rw[g]at c2;generalize Bq a b=r at *;obtain⟨rs,I⟩:=r;generalize (prs a).isSome=o at *;have l:=qh c1;have u:=qh c2;clear c1 c2 k hb j g m;cases o
 rotate_left
 all_goals
  go_enter func183,ntmps183
  go_wp2_with fail
  refine nxa l.o λF c=>?_
  go_wp2_with fail
  refine nxb (u.o _ c.o) c λG i=>?_;go_wp2;go_ret2;exact⟨rfl,i.o⟩
end
section
open Go.RowKit
attribute [local go_sem ↓] Go.wp_at_zero Go.wp_at_succ
def Sw(p q:Bool)(B E u C a b c:ByteArray)(s:Bool)(v:Int)(s1 s2:ByteArray)(w:World)
  (D:((c.toList==[48])=true/\v=0)\/((c.toList==[48])=false/\s=true/\v=-1)\/((c.toList==[48])=false/\s=false/\v=1))
  (c0:∀wx,Below w.heap.size w wx->Calls prog 163 #[.string s1] wx λe w'=>e=.returned (.tuple #[.agg #[.bool p,.string B,.string E],.bool true])/\Below wx.heap.size wx w')
  (G:∀wx,Below w.heap.size w wx->Calls prog 163 #[.string s2] wx λe w'=>e=.returned (.tuple #[.agg #[.bool q,.string u,.string C],.bool true])/\Below wx.heap.size wx w')
  (c1:∀wx,Below w.heap.size w wx->Calls prog 166 #[.string B,.string C] wx (StrZ a wx))
  (c2:∀wx,Below w.heap.size w wx->Calls prog 166 #[.string u,.string E] wx (StrZ b wx))
  (c3:∀wx,Below w.heap.size w wx->Calls prog 164 #[.bool p,.string a,.bool (!q),.string b] wx λe w'=>e=.returned (.tuple #[.bool s,.string c])/\Below wx.heap.size wx w') :
  Calls prog 127 #[.string s1,.string s2] w (IntEnd v w):=by
 replace c0:=qh c0;have I:=qh G;clear G;replace c1:=qh c1;replace c2:=qh c2;replace c3:=qh c3;have Q:=qh D;clear D
 go_enter func127,ntmps127
 go_wp2_with fail
 refine(c0.o _ blr).mono ?_;rintro e k⟨rfl,l⟩;have P:=qh l;have z:=qh<|l.alloc l.size (.cells #[.bool p,.string B,.string E] 180);clear l
 go_wp2_with fail
 refine(I.o _ z.o).mono ?_;rintro e o⟨rfl,m⟩;have F:=qh m;have j:=qh<|(Ag z.o m).alloc (Nat.le_trans z.o.size m.size) (.cells #[.bool q,.string u,.string C] 180);clear m
 go_wp2_with fail
 obtain⟨W,H⟩:=exq<|o.alloc (.cells #[.bool q,.string u,.string C] 180);have d:∀g,Below W.heap.size W g->(Below W.heap.size W g/\
  g.cell? (Ad k.heap.size 0)=some (.bool p)/\g.cell? (Ad k.heap.size 1)=some (.string B)/\g.cell? (Ad k.heap.size 2)=some (.string E)/\
  g.cell? (Ad o.heap.size 0)=some (.bool q)/\g.cell? (Ad o.heap.size 1)=some (.string u)/\g.cell? (Ad o.heap.size 2)=some (.string C)):=by
  intro g h;subst H;have U:=F.o.size;rw[World.size_alloc]at U;have J:∀(i:Nat) (v:Value),(k.alloc (.cells #[.bool p,.string B,.string E] 180)).cell? (Ad k.heap.size i)=some v->g.cell? (Ad k.heap.size i)=some v:=by
   intro i v D;refine(h.cell (p:=(Ad k.heap.size i)) (by rw[World.size_alloc];show k.heap.size<_;omega)).trans ?_;rw[World.cell?_alloc_past (hn:=by omega)];exact(F.o.cell (p:=(Ad k.heap.size i)) (by rw[World.size_alloc];show k.heap.size<_;omega)).trans D
  have K:∀(i:Nat) (v:Value),(o.alloc (.cells #[.bool q,.string u,.string C] 180)).cell? (Ad o.heap.size i)=some v->g.cell? (Ad o.heap.size i)=some v:=by
   intro i v D;exact(h.cell (p:=(Ad o.heap.size i)) (by rw[World.size_alloc];show o.heap.size<_;omega)).trans D
  exact⟨h,J 0 _ (by simp[go_sem]),J 1 _ (by simp[go_sem]),J 2 _ (by simp[go_sem]),K 0 _ (by simp[go_sem]),K 1 _ (by simp[go_sem]),K 2 _ (by simp[go_sem])⟩
 rw[<-H];rw[<-H]at j;replace d:=qh d;replace H:=qh H;have R:Below W.heap.size W W.drew:=blr.drew
 go_region_held2 (λg=>Below W.heap.size W g/\
  g.cell? (Ad k.heap.size 0)=some (.bool p)/\g.cell? (Ad k.heap.size 1)=some (.string B)/\g.cell? (Ad k.heap.size 2)=some (.string E)/\
  g.cell? (Ad o.heap.size 0)=some (.bool q)/\g.cell? (Ad o.heap.size 1)=some (.string u)/\g.cell? (Ad o.heap.size 2)=some (.string C))
  (first|exact d.o _ (by assumption)|exact d.o _ blr.drew)
  (first
   |(go_at_call_of 166 (Value.string B);refine(c1.o _ (Ag j.o (by assumption))).mono ?_;rintro e k⟨rfl,l⟩;have S:=Ag (by assumption) l)
   |(go_at_call_of 166 (Value.string u);refine(c2.o _ (Ag j.o (by assumption))).mono ?_;rintro e o⟨rfl,m⟩;have T:=Ag (by assumption) m)
   |(go_at_call 165;refine(Ba _ _).mono ?_;rintro e w'⟨rfl,rfl⟩)
   |(go_at_call 164;refine(c3.o _ (Ag j.o (by assumption))).mono ?_;rintro e X⟨rfl,L⟩;have N:=Ag (by assumption) L))
 have A:=qh N
 rcases Q.o with⟨O,rfl⟩|⟨O,rfl,rfl⟩|⟨O,rfl,rfl⟩
 ·go_wp2;go_ret;exact⟨rfl,Ag j.o A.o⟩
 ·go_wp2;go_ret;exact⟨rfl,Ag j.o A.o⟩
 go_wp2;go_ret;exact⟨rfl,Ag j.o A.o⟩
theorem Xl(n:Nat):((str (dec n)).toList==[48])=decide (n=0):=by
 rw[str_eq,decide_eq_decide];exact⟨λh=>Cy (h.trans Cz.symm),λh=>by rw[h,Cz]⟩
def Ku(a b:ByteArray)(w:World)(D:a.size<=9223372036854775807)(hb:b.size<=9223372036854775807)(E:Tab w):
  Calls prog 127 #[.string a,.string b] w (IntEnd (Bp a b) w):=by
 have m:∀c,Below w.heap.size w c->Tab c:=λc h=>E.below h nlr;have c1:=λc (h:Below w.heap.size w c)=>Gh a c D (m c h);have c2:=λc (h:Below w.heap.size w c)=>Gh b c hb (m c h);cases l:prs a with
 |none =>
  have p:Bp a b=0:=by unfold Bp;rw[l]
  rw[p];simp only[l,Option.isSome,prsV]at c1;generalize (prs b).isSome=o at c2;obtain⟨r,x,y,G⟩:=Kr<|prs b;rw[G]at c2;have B:=qh c1;clear c1;have C:=qh c2;clear c2 p l G E D hb m;unfold NoNum nvS at B
  go_enter func127,ntmps127
  go_wp2_with fail
  refine(B.o _ blr).mono ?_;rintro e K⟨rfl,d⟩;have g:=qh<|d.alloc d.size (.cells #[.bool false,.string ⟨#[]⟩,.string ⟨#[]⟩] 180);clear d
  go_wp2_with fail
  refine(C.o _ g.o).mono ?_;rintro e L⟨rfl,j⟩;have i:=qh<|Ag g.o j;clear j;go_wp2;go_ret;exact⟨rfl,i.o.alloc i.o.size _⟩
 |some x =>
  simp only[l,Option.isSome,prsV]at c1;cases u:prs b with
  |none =>
   have p:Bp a b=0:=by unfold Bp;rw[l,u]
   rw[p];simp only[u,Option.isSome,prsV]at c2;have B:=qh c1;clear c1;have C:=qh c2;clear c2 p l u E D hb m;unfold NoNum nvS at C;unfold nv nvS at B
   go_enter func127,ntmps127
   go_wp2_with fail
   refine(B.o _ blr).mono ?_;rintro e K⟨rfl,d⟩;have g:=qh<|d.alloc d.size (.cells #[.bool (negQ x),.string (str (dec x.num.natAbs)),.string (str (dec x.den))] 180);clear d
   go_wp2_with fail
   refine(C.o _ g.o).mono ?_;rintro e L⟨rfl,j⟩;have i:=qh<|Ag g.o j;clear j;go_wp2;go_ret;exact⟨rfl,i.o.alloc i.o.size _⟩
  |some y =>
   have z:=(AT l).2;have A:=(AT u).2;have p:Bp a b=cmpQ x y:=by unfold Bp;rw[l,u]
   rw[p];simp only[u,Option.isSome,prsV]at c2;have H:fits (x.num.natAbs*y.den):=Bo z.1 A.2;have I:fits (y.num.natAbs*x.den):=Bo A.1 z.2;have J:fits (x.num.natAbs*y.den+y.num.natAbs*x.den):=FN z.1 A.2 A.1 z.2;refine Sw (negQ x) (negQ y) _ _ _ _ (str (dec (x.num.natAbs*y.den))) (str (dec (y.num.natAbs*x.den))) (str (dec (sumF (negQ x) (x.num.natAbs*y.den) (!negQ y) (y.num.natAbs*x.den)).2)) (sumF (negQ x) (x.num.natAbs*y.den) (!negQ y) (y.num.natAbs*x.den)).1 (cmpQ x y) a b w ?_ c1 c2
    (λc h=>CG _ _ c (BC z) (AZ A) H (m c h)) (λc h=>CG _ _ c (BC A) (AZ z) I (m c h))
    (λc h=>Kz (negQ x) (!negQ y) _ _ c J (m c h))
   rw[Ms x y,Xl];generalize sumF (negQ x) (x.num.natAbs*y.den) (!negQ y) (y.num.natAbs*x.den)=r;obtain⟨s,k⟩:=r;by_cases F:k=0
   ·left;simp[F]
   right;cases s<;>simp[F]
end
section
open Go.RowKit
abbrev fv(g:FuncId):Value:=.func (.func g) #[] #[]
def ring0:Array Value:=#[.string ⟨#[]⟩,.string ⟨#[]⟩,.bool false,.nilFunc,.nilFunc,.nilFunc,.nilFunc,.nilFunc]
def ring1:Array Value:=#[.string ⟨#[105,110,102]⟩,.string ⟨#[48]⟩,.bool true,fv 143,fv 144,fv 145,fv 146,fv 146]
def ring2:Array Value:=#[.string ⟨#[48]⟩,.string ⟨#[49]⟩,.bool false,fv 147,fv 148,fv 149,fv 150,fv 151]
def ring3:Array Value:=#[.string ⟨#[48]⟩,.string ⟨#[49]⟩,.bool false,fv 143,fv 148,fv 152,fv 150,fv 151]
def CL:Array Value:=#[.string ⟨#[]⟩,.string ⟨#[]⟩,.bool false,.nilFunc,.nilFunc,.nilFunc,.nilFunc,.nilFunc,
 .string ⟨#[105,110,102]⟩,.string ⟨#[48]⟩,.bool true,fv 143,fv 144,fv 145,fv 146,fv 146,
 .string ⟨#[48]⟩,.string ⟨#[49]⟩,.bool false,fv 147,fv 148,fv 149,fv 150,fv 151,
 .string ⟨#[48]⟩,.string ⟨#[49]⟩,.bool false,fv 143,fv 148,fv 152,fv 150,fv 151]
theorem Ly{P:Program}{g:Array Oper}{d:List Oper}{i:Oper}{a:Act}{w:World}{Q:Exit->Act->World->Prop}(j:i.guard=none)(t:TypeId)(x y:Operand)(m:i.op=.store t x y)
  (c c':Array Value) (p:a.eval x=.pointer (some (Ad w.heap.size 0))) (s:a.eval y=.agg c') (hi:(P.info? t).map (·.size)=some c'.size) (o:c.size=c'.size) (k:c'.all (·.oneCell')=true)
  (h:wpList P g Q d (a.put i.dst undef) (w.alloc (.cells c' t))):wpList P g Q (i::d) a (w.alloc (.cells c t)) :=
 wpList_plain j λ_ l=>by
  unfold Oper.wp execOp;simp only[m,p,s,Instr.storeAt,Instr.sureAddr,Sem.run_bind,Sem.run_pure,Result.andThen_ok,run_storeVar_new w t c c' hi o k];exact l _ _ h
def OP{fn:Func}{p:Tmp}{d:TypeId}(h:fn.results=#[.cell p d])(c:Array Value)(P:Program)(w:World):
  (results fn c).run P w=((asAddr (c.getD p undef)).run P w).andThen λa w₁=>(loadVar d a).run P w₁:=by
 simp only[results,h];simp[Sem.run_bind,Result.andThen]
theorem KP(w:World):Calls prog 107 #[] w λe w'=>e=.returned (.agg CL)/\Below w.heap.size w w':=by
 have hi:(prog.info? 139).map (·.size)=some CL.size:=by kernel_rfl
 have c:CL.all (·.oneCell')=true:=by decide +kernel
 replace hi:=qh hi;replace c:=qh c
 go_enter func107,ntmps107
 go_wp2_with (refine Ly rfl 139 (.tmp 0) (.tmp 4) rfl _ CL rfl rfl hi.o rfl c.o ?_)
 refine bodyPost_ret (v:=.agg CL) ?_ rfl ⟨rfl,blr.alloc nlr _⟩;rw[OP rfl];exact run_loadVar_new w 139 CL 4 91 underlying139 hi.o
def there8{w wk:World}{c:Array Value}{t:TypeId}(g:c.size=8)(h:Below (w.alloc (.cells c t)).heap.size (w.alloc (.cells c t)) wk):wk.there w.heap.size 0 8:=by
 intro j i;have d:w.heap.size<(w.alloc (.cells c t)).heap.size:=by simp
 have e:=h.cell (p:=(Ad w.heap.size (0+j))) d;have f:=h.frozen (p:=(Ad w.heap.size (0+j))) d;rw[e,f]
 constructor
 ·rw[cell_of_row _ _ (0+j) c t (0,0) (heap_alloc_last w _)];simp[g,i]
 exact World.frozen?_alloc_new w c t _
def OfEnd(r:Array Value)(b:Bool)(w:World)(e:Ending)(w':World):Prop:=e=.returned (.tuple #[.agg r,.bool b])/\Below w.heap.size w w'
def KL{fn:Func}{p u:Tmp}(h:fn.results=#[.cell p 91,.tmp u])(c:Array Value)(W:World)(b:Nat)(r:List Value)(v:Value)(g:c.getD p undef=.pointer (some (Ad b 0)))(j:c.getD u undef=v)
  (i:r.length=8) (d:W.rangeAt b 0 r):(results fn c).run prog W=.ok (.tuple #[.agg r.toArray,v]) W:=by
 rw[results_cell_tmp h,g,j];have hi:(prog.info? 91).map (·.size)=some r.length:=by rw[i];kernel_rfl
 have:=run_loadVar_mid (P:=prog) W b 0 91 r _ d underlying91 rfl hi;show ((loadVar 91 (Ad b 0)).run prog W).andThen _=_;rw[this];rfl
def OH(w:World)(c:Array Value)(t:TypeId):(w.alloc (.cells c t)).rangeAt w.heap.size 0 c.toList:=by
 intro j v d;rw[cell_of_row _ _ (0+j) c t (0,0) (heap_alloc_last w _)];rw[Nat.zero_add];rw[Array.getElem?_toList]at d;exact d
def Vv(k:Int)(w:World)(d:k<1\/3<k):Calls prog 56 #[.int .i64 k] w (OfEnd ring0 false w):=by
 have hi:(prog.info? 91).map (·.size)=some ring0.size:=by kernel_rfl
 have c:ring0.all (·.oneCell')=true:=by decide +kernel
 replace hi:=qh hi;replace c:=qh c
 rcases d with d|d
 ·go_enter func56,ntmps56
  go_wp2_with (refine Ly rfl 91 (.tmp 2) (.tmp 10) rfl _ ring0 rfl rfl hi.o rfl c.o ?_)
  exact bodyPost_ret (KL rfl _ _ w.heap.size ring0.toList (.bool false) rfl rfl rfl (OH w ring0 _)) rfl ⟨rfl,blr.alloc nlr _⟩
 have g:decide (k<1)=false:=by rw[decide_eq_false_iff_not];omega
 go_enter func56,ntmps56
 go_wp2_with (refine Ly rfl 91 (.tmp 2) (.tmp 10) rfl _ ring0 rfl rfl hi.o rfl c.o ?_)
 exact bodyPost_ret (KL rfl _ _ w.heap.size ring0.toList (.bool false) rfl rfl rfl (OH w ring0 _)) rfl ⟨rfl,blr.alloc nlr _⟩
theorem Mg{B b:Nat}{a:World}:∀{w:World},Below B a w->B<=b->∀(vs:List Value) (o:Nat),Below B a (w.setCells b o vs)
 |_,h,_,[],_=>h
 |_,h,hB,v::vs,o=>Mg (h.setCell (p:=(Ad b o)) hB v) hB vs (o+1)
def Kh(k:Int)(l R:Array Value)(w:World)(p:1<=k)(z:k<=3)(c:R.size=8)(m:R.all (·.oneCell')=true)(o:∀wx,Calls prog 107 #[] wx λe w'=>e=.returned (.agg l)/\Below wx.heap.size wx w')
  (B:∀w,(Instr.index 139 (.agg l) (.int .i64 k)).run prog w=.ok (.agg R) w):Calls prog 56 #[.int .i64 k] w (OfEnd R true w):=by
 have hi:(prog.info? 91).map (·.size)=some R.size:=by rw[c];kernel_rfl
 replace hi:=qh hi;replace m:=qh m;replace o:=qh o;replace c:=qh c;have s:decide (k<1)=false:=by rw[decide_eq_false_iff_not];omega
 have u:decide (3<k)=false:=by rw[decide_eq_false_iff_not];omega
 have d:Below w.heap.size w (w.alloc (.cells ring0 91)):=blr.alloc nlr _;replace d:=qh d
 go_enter func56,ntmps56
 go_wp2_with fail
 refine(o.o _).mono ?_;rintro e A⟨rfl,g⟩;replace g:=qh g;have j:=there8 rfl g.o;rw[<-c.o]at j;replace j:=qh j
 go_wp2_with (refine wpList_store_mid rfl 91 (.tmp 2) (.tmp 13) rfl w.heap.size 0 R rfl rfl j.o hi.o m.o ?_)
 have i:=World.rangeAt_setCells_same A w.heap.size 0 R.toList (by rw[Array.length_toList];exact j.o);have h:=KL (fn:=f56) rfl #[.int .i64 k,undef,.pointer (some (Ad w.heap.size 0)),.bool true,.int .i64 k,.bool false,.bool false,.int .i64 k,.bool false,.bool false,undef,.agg l,.int .i64 k,.agg R] _ w.heap.size R.toList (.bool true) rfl rfl (by rw[Array.length_toList];exact c.o) i;rw[Array.toArray_toList]at h;exact bodyPost_ret h rfl ⟨rfl,Mg (d.o.trans (g.o.mono d.o.size)) nlr _ _⟩
def Uh(w:World):(Instr.index 139 (.agg CL) (.int .i64 1)).run prog w=.ok (.agg ring1) w:=by kernel_rfl
def of_1(w:World):Calls prog 56 #[.int .i64 1] w (OfEnd ring1 true w) :=
 Kh 1 CL ring1 w (by decide) (by decide) rfl (by decide +kernel) KP Uh
def Ui(w:World):(Instr.index 139 (.agg CL) (.int .i64 2)).run prog w=.ok (.agg ring2) w:=by kernel_rfl
def of_2(w:World):Calls prog 56 #[.int .i64 2] w (OfEnd ring2 true w) :=
 Kh 2 CL ring2 w (by decide) (by decide) rfl (by decide +kernel) KP Ui
def Uj(w:World):(Instr.index 139 (.agg CL) (.int .i64 3)).run prog w=.ok (.agg ring3) w:=by kernel_rfl
def of_3(w:World):Calls prog 56 #[.int .i64 3] w (OfEnd ring3 true w) :=
 Kh 3 CL ring3 w (by decide) (by decide) rfl (by decide +kernel) KP Uj
def Fw(k:Int):Array Value:=if k=1 then ring1 else if k=2 then ring2 else if k=3 then ring3 else ring0
def Kg(k:Int)(w:World):Calls prog 56 #[.int .i64 k] w (OfEnd (Fw k) (Aw k) w):=by
 by_cases h:k<1\/3<k
 ·have c:Fw k=ring0:=by unfold Fw;rw[ifn (by omega),ifn (by omega),ifn (by omega)]
  have d:Aw k=false:=by unfold Aw;rw[Bool.and_eq_false_iff];simp;omega
  rw[c,d];exact Vv k w h
 have:k=1\/k=2\/k=3:=by omega
 rcases this with rfl|rfl|rfl
 ·exact of_1 w
 ·exact of_2 w
 exact of_3 w
theorem Cg:infS.toList=[105,110,102]:=by rw[Lib.toList_data];rfl
theorem Da:lowS.toList=[45,105,110,102]:=by rw[Lib.toList_data];rfl
def GF{q:Rat}(h:fitQ q):((txt q).toList==[105,110,102])=false:=by
 refine BQ (l:=[105,110,102]) (λe=>?_);have:=Bl h;rw[e]at this;have c:=Im;unfold infS at c;rw[show str [105,110,102]=(⟨#[105,110,102]⟩:ByteArray) from rfl,c]at this;simp at this
def Lm{q:Rat}(h:fitQ q):((txt q).toList==[45,105,110,102])=false:=by
 refine BQ (l:=[45,105,110,102]) (λe=>?_);have:=Bl h;rw[e]at this;have c:=Gj;unfold lowS at c;rw[show str [45,105,110,102]=(⟨#[45,105,110,102]⟩:ByteArray) from rfl,c]at this;simp at this
def OE{x y:Rat}(c:fitQ x)(d:fitQ y):Bp (txt x) (txt y)=cmpQ x y:=by unfold Bp;rw[Bl c,Bl d]
theorem GI(v u:V)(w:World)(A:fitV v)(p:fitV u)(S:Tab w):Calls prog 85 #[.string (vtxt v),.string (vtxt u)] w (IntEnd (cmpV v u) w):=by
 have K:∀(a b:ByteArray) (z:Int) (g:z=0/\a=b\/a≠b) (c:a≠b->a≠infS->a≠lowS->b≠infS->b≠lowS->Calls prog 127 #[.string a,.string b] w (IntEnd z w))
   (B:a≠b->((a=lowS\/b=infS)/\z=-1)\/(a≠lowS/\b≠infS/\(b=lowS\/a=infS)/\z=1)\/(a≠lowS/\b≠infS/\b≠lowS/\a≠infS)),
   Calls prog 85 #[.string a,.string b] w (IntEnd z w):=by
  intro a b z g c B
  rcases g with⟨rfl,rfl⟩|g
  ·clear c B
   go_enter func85,ntmps85
   go_wp2;go_ret;exact⟨rfl,blr⟩
  have R:(a.toList==b.toList)=false:=by rw[beq_eq_false_iff_ne];exact NR g
  have o:∀s:ByteArray,s≠lowS->(s.toList==[45,105,110,102])=false:=λs h=>BQ (l:=[45,105,110,102]) h;have D:∀s:ByteArray,s≠infS->(s.toList==[105,110,102])=false:=λs h=>BQ (l:=[105,110,102]) h;replace o:=qh o;replace D:=qh D
  rcases B g with⟨d,rfl⟩|⟨d,k,m,rfl⟩|⟨d,k,m,E⟩
  ·clear c B;by_cases i:a=lowS
   ·have G:(a.toList==[45,105,110,102])=true:=by rw[i,Da];rfl
    clear g d i
    go_enter func85,ntmps85
    go_wp2;go_ret;exact⟨rfl,blr⟩
   have G:=o.o a i;have L:(b.toList==[105,110,102])=true:=by rw[d.resolve_left i,Cg];rfl
   clear g d i
   go_enter func85,ntmps85
   go_wp2;go_ret;exact⟨rfl,blr⟩
  ·clear c B;have G:=o.o a d;have L:=D.o b k;by_cases j:b=lowS
   ·have N:(b.toList==[45,105,110,102])=true:=by rw[j,Da];rfl
    cases O:(a.toList==[105,110,102])
    all_goals
     clear g d k m j
     go_enter func85,ntmps85
     go_wp2;go_ret;exact⟨rfl,blr⟩
   have N:=o.o b j;have O:(a.toList==[105,110,102])=true:=by rw[m.resolve_left j,Cg];rfl
   clear g d k m j
   go_enter func85,ntmps85
   go_wp2;go_ret;exact⟨rfl,blr⟩
  have G:=o.o a d;have L:=D.o b k;have N:=o.o b m;have O:=D.o a E;have C:=qh<|c g E d k m;clear c B g d k m E
  go_enter func85,ntmps85
  go_wp2_with fail
  refine nxa C.o λT Q=>?_;go_wp2;go_ret;exact⟨rfl,Q.o⟩
 refine K _ _ _ ?_ ?_ ?_
 ·by_cases h:v=u
  ·subst h;exact .inl ⟨(Hh v v).2 rfl,rfl⟩
  exact .inr<|λe=>h (Lv A p e)
 ·intro _ d k m E;cases v with
  |inf=>exact absurd rfl d
  |low=>exact absurd rfl k
  |fin x =>
   cases u with
   |inf=>exact absurd rfl m
   |low=>exact absurd rfl E
   |fin y =>
    have P:=Ku (txt x) (txt y) w (by have:=Dg A;omega) (by have:=Dg p;omega) S;rw[OE A p]at P;exact P
 intro h;have F:infS≠lowS:=by decide
 have H:∀q:Rat,fitQ q->txt q≠infS:=λq J e=>by have:=GF J;rw[e,Cg]at this;simp at this
 have I:∀q:Rat,fitQ q->txt q≠lowS:=λq J e=>by have:=Lm J;rw[e,Da]at this;simp at this
 cases v with
 |inf =>
  cases u with
  |inf=>exact absurd rfl h
  |low=>exact .inr (.inl ⟨F,Ne.symm F,.inl rfl,rfl⟩)
  |fin y=>exact .inr (.inl ⟨F,H y p,.inr rfl,rfl⟩)
 |low =>
  cases u with
  |inf=>exact .inl ⟨.inl rfl,rfl⟩
  |low=>exact absurd rfl h
  |fin y=>exact .inl ⟨.inl rfl,rfl⟩
 |fin x =>
  cases u with
  |inf=>exact .inl ⟨.inr rfl,rfl⟩
  |low=>exact .inr (.inl ⟨I x A,Ne.symm F,.inl rfl,rfl⟩)
  |fin y=>exact .inr (.inr ⟨I x A,H y p,I y p,H x A⟩)
variable{a:ByteArray}{k:Int}
theorem Dw:txt 0=⟨#[48]⟩:=((AT Gk).1).symm
def EY:fitQ 0:=(AT Gk).2
theorem Ft:prs ⟨#[49]⟩=some 1:=by
 have:txt 1=⟨#[49]⟩:=by unfold txt txtL;rw[show negQ 1=false from rfl,show (1:Rat).num.natAbs=1 from rfl,show (1:Rat).den=1 from rfl,Cd];rfl
 rw[<-this];exact Bl (by unfold fitQ;rw[show (1:Rat).num.natAbs=1 from rfl,show (1:Rat).den=1 from rfl,Cd];decide)
theorem El:txt 1=⟨#[49]⟩:=((AT Ft).1).symm
def EW:fitQ 1:=(AT Ft).2
def natB(a:ByteArray):Bool:=match prs a with|some q=>decide (0<=q)|none=>false
def posB(a:ByteArray):Bool:=match prs a with|some q=>decide (0<q)|none=>false
def Ks{q:Rat}(h:prs a=some q):Bp a ⟨#[48]⟩=cmpQ q 0:=by unfold Bp;rw[h,Gk]
theorem YQ(a:ByteArray):Am 1 a=(prs a).isSome:=by
 unfold Am rdV;by_cases c:a=infS
 ·rw[ifp c,c,Im];rfl
 rw[ifn c];by_cases d:a=lowS
 ·rw[ifp d,d,Gj];rfl
 rw[ifn d];cases prs a with
 |none=>rfl
 |some q=>simp[wtV]
theorem QG(g:k=2\/k=3)(a:ByteArray):Am k a=posB a:=by
 unfold Am rdV posB;by_cases c:a=infS
 ·rw[ifp c,c,Im];rfl
 rw[ifn c];by_cases d:a=lowS
 ·rw[ifp d,d,Gj];rfl
 rw[ifn d];cases prs a with
 |none=>rfl
 |some q =>
  show decide (wtV k (.fin q))=decide (0<q);rw[decide_eq_decide]
  constructor
  ·intro h;rcases h with h|h
   ·omega
   exact h.2
  intro h;exact .inr ⟨g,h⟩
def Qv(c:k=1\/k=2\/k=3):Ak k infS=true:=by
 have:vprs k infS=some .inf:=Dx.2 ⟨by simp[rdV],by unfold okV;omega⟩;unfold Ak;rw[this];rfl
theorem Qw:Ak 1 lowS=true:=by
 have:vprs 1 lowS=some .low:=Dx.2 ⟨by simp[rdV,show lowS≠infS by decide],rfl⟩;unfold Ak;rw[this];rfl
def Qt(c:a≠infS)(d:a≠lowS):Ak 1 a=(prs a).isSome:=by
 unfold Ak vprs rdV;rw[ifn c,ifn d];cases prs a with
 |none=>rfl
 |some q=>simp[okV]
theorem Qu(g:k=2\/k=3)(d:a≠infS):Ak k a=natB a:=by
 unfold Ak vprs rdV natB;rw[ifn d];by_cases c:a=lowS
 ·rw[ifp c,c,Gj];have:decide (okV k .low)=false:=by rw[decide_eq_false_iff_not];intro h;change k=1 at h;omega
  simp[Option.filter,this]
 rw[ifn c];cases prs a with
 |none=>rfl
 |some q =>
  have:decide (okV k (.fin q))=decide (0<=q):=by
   rw[decide_eq_decide]
   constructor
   ·intro h;rcases h with h|h
    ·omega
    exact h.2
   intro h;exact .inr ⟨g,h⟩
  simp only[Option.map_some,Option.filter,this];cases decide (0<=q)<;>rfl
def BoolE(b:Bool)(w:World)(e:Ending)(w':World):Prop:=e=.returned (.bool b)/\Below w.heap.size w w'
def OI(a:ByteArray)(w:World)(c:a.size<=9223372036854775807)(d:Tab w):Calls prog 146 #[.string a] w (BoolE (prs a).isSome w):=Io a w c d
def NP(a:ByteArray)(w:World)(i:a.size<=9223372036854775807)(j:Tab w):Calls prog 150 #[.string a] w (BoolE (natB a) w):=by
 have c1:=Io a w i j;have c2:=λm (h:Below w.heap.size w m)=>Ku a ⟨#[48]⟩ m i (by decide) (j.below h nlr);cases d:prs a with
 |none =>
  have g:natB a=false:=by unfold natB;rw[d]
  rw[g];rw[d]at c1;simp only[Option.isSome]at c1;have k:=qh c1;clear c1 c2 d g i j
  go_enter func150,ntmps150
  go_wp2_with fail
  refine nxa k.o λp c=>?_;go_wp2;go_ret;exact⟨rfl,c.o⟩
 |some q =>
  have g:natB a=decide (0<=q):=by unfold natB;rw[d]
  rw[Ks d]at c2;rw[g];rw[d]at c1;simp only[Option.isSome]at c1;have k:=qh c1;clear c1;have hd:(decide (0<=q)=decide (0<=cmpQ q 0)):=by
   rcases BJ q 0 with⟨h,e⟩|⟨h,e⟩|⟨h,e⟩<;>rw[e]
   ·rw[decide_eq_decide];simp;exact Rat.not_le.2 h
   ·subst h;rfl
   rw[decide_eq_decide];simp;exact Rat.le_of_lt h
  rw[hd];have o:cmpQ q 0=-1\/cmpQ q 0=0\/cmpQ q 0=1:=by rcases BJ q 0 with⟨h,e⟩|⟨h,e⟩|⟨h,e⟩<;>simp[e]
  generalize cmpQ q 0=z at *;replace c2:=qh c2;clear d g i j hd
  rcases o with rfl|rfl|rfl
  all_goals
   go_enter func150,ntmps150
   go_wp2_with fail
   refine nxa k.o λp c=>?_
   go_wp2_with fail
   refine nxb (c2.o _ c.o) c λs l=>?_;go_wp2;go_ret;exact⟨rfl,l.o⟩
def Ox(a:ByteArray)(w:World)(i:a.size<=9223372036854775807)(j:Tab w):Calls prog 151 #[.string a] w (BoolE (posB a) w):=by
 have c1:=Io a w i j;have c2:=λm (h:Below w.heap.size w m)=>Ku a ⟨#[48]⟩ m i (by decide) (j.below h nlr);cases d:prs a with
 |none =>
  have g:posB a=false:=by unfold posB;rw[d]
  rw[g];rw[d]at c1;simp only[Option.isSome]at c1;have k:=qh c1;clear c1 c2 d g i j
  go_enter func151,ntmps151
  go_wp2_with fail
  refine nxa k.o λp c=>?_;go_wp2;go_ret;exact⟨rfl,c.o⟩
 |some q =>
  have g:posB a=decide (0<q):=by unfold posB;rw[d]
  rw[Ks d]at c2;rw[g];rw[d]at c1;simp only[Option.isSome]at c1;have k:=qh c1;clear c1;have hd:(decide (0<q)=decide (0<cmpQ q 0)):=by
   rcases BJ q 0 with⟨h,e⟩|⟨h,e⟩|⟨h,e⟩<;>rw[e]
   ·rw[decide_eq_decide];simp;exact Rat.not_lt.2<|Rat.le_of_lt h
   ·subst h;rfl
   rw[decide_eq_decide];simp;exact h
  rw[hd];have o:cmpQ q 0=-1\/cmpQ q 0=0\/cmpQ q 0=1:=by rcases BJ q 0 with⟨h,e⟩|⟨h,e⟩|⟨h,e⟩<;>simp[e]
  generalize cmpQ q 0=z at *;replace c2:=qh c2;clear d g i j hd
  rcases o with rfl|rfl|rfl
  all_goals
   go_enter func151,ntmps151
   go_wp2_with fail
   refine nxa k.o λp c=>?_
   go_wp2_with fail
   refine nxb (c2.o _ c.o) c λs l=>?_;go_wp2;go_ret;exact⟨rfl,l.o⟩
def cell_kept{w wk:World}{c:Array Value}{t:TypeId}(h:Below (w.alloc (.cells c t)).heap.size (w.alloc (.cells c t)) wk)(i:Nat):wk.cell? (Ad w.heap.size i)=c[i]?:=by
 have d:w.heap.size<(w.alloc (.cells c t)).heap.size:=by simp
 exact(h.cell (p:=(Ad w.heap.size i)) d).trans (cell_of_row _ _ i c t (0,0) (heap_alloc_last w _))
def Se(v u:V)(w:World)(m:fitV v)(l:fitV u)(k:Tab w):Calls prog 143 #[.agg ring1,.string (vtxt v),.string (vtxt u)] w (PairEnd (limV (Av 1 v u)) w):=by
 have c:Below w.heap.size w (w.alloc (.cells ring1 91)):=blr.alloc nlr _;have c1:=λp (h:Below w.heap.size w p)=>GI v u p m l (k.below h nlr);have j:Av 1 v u=if 0<cmpV v u then u else v:=by unfold Av;rfl
 rw[j];have i:limV (if 0<cmpV v u then u else v)=(if 0<cmpV v u then vtxt u else vtxt v,0):=by split<;>(rw[DY];assumption)
 rw[i];have s:=ES v u;generalize cmpV v u=z at *;replace c1:=qh c1;clear k j i;replace c:=qh c;unfold ring1 at c ⊢;generalize vtxt v=a at *;generalize vtxt u=b at *;clear m l
 rcases s with rfl|rfl|rfl
 ·change Calls _ _ _ _ (PairEnd (a,0) w)
  go_enter func143,ntmps143
  go_wp2_with fail
  refine(c1.o _ c.o).mono ?_;rintro e o⟨rfl,hb⟩;have g:=qh hb;have d:=qh<|Ag c.o hb;clear hb;have k2:=cell_kept g.o 2;go_wp2;go_ret2;exact⟨rfl,d.o⟩
 ·change Calls _ _ _ _ (PairEnd (a,0) w)
  go_enter func143,ntmps143
  go_wp2_with fail
  refine(c1.o _ c.o).mono ?_;rintro e o⟨rfl,hb⟩;have g:=qh hb;have d:=qh<|Ag c.o hb;clear hb;have k2:=cell_kept g.o 2;go_wp2;go_ret2;exact⟨rfl,d.o⟩
 change Calls _ _ _ _ (PairEnd (b,0) w)
 go_enter func143,ntmps143
 go_wp2_with fail
 refine(c1.o _ c.o).mono ?_;rintro e o⟨rfl,hb⟩;have g:=qh hb;have d:=qh<|Ag c.o hb;clear hb;have k2:=cell_kept g.o 2;go_wp2;go_ret2;exact⟨rfl,d.o⟩
def Sf(v u:V)(w:World)(m:fitV v)(l:fitV u)(k:Tab w):Calls prog 143 #[.agg ring3,.string (vtxt v),.string (vtxt u)] w (PairEnd (limV (Av 3 v u)) w):=by
 have c:Below w.heap.size w (w.alloc (.cells ring3 91)):=blr.alloc nlr _;have c1:=λp (h:Below w.heap.size w p)=>GI v u p m l (k.below h nlr);have j:Av 3 v u=if cmpV v u<0 then u else v:=by unfold Av;rfl
 rw[j];have i:limV (if cmpV v u<0 then u else v)=(if cmpV v u<0 then vtxt u else vtxt v,0):=by split<;>(rw[DY];assumption)
 rw[i];have s:=ES v u;generalize cmpV v u=z at *;replace c1:=qh c1;clear k j i;replace c:=qh c;unfold ring3 at c ⊢;generalize vtxt v=a at *;generalize vtxt u=b at *;clear m l
 rcases s with rfl|rfl|rfl
 ·change Calls _ _ _ _ (PairEnd (b,0) w)
  go_enter func143,ntmps143
  go_wp2_with fail
  refine(c1.o _ c.o).mono ?_;rintro e o⟨rfl,hb⟩;have g:=qh hb;have d:=qh<|Ag c.o hb;clear hb;have k2:=cell_kept g.o 2;go_wp2;go_ret2;exact⟨rfl,d.o⟩
 ·change Calls _ _ _ _ (PairEnd (a,0) w)
  go_enter func143,ntmps143
  go_wp2_with fail
  refine(c1.o _ c.o).mono ?_;rintro e o⟨rfl,hb⟩;have g:=qh hb;have d:=qh<|Ag c.o hb;clear hb;have k2:=cell_kept g.o 2;go_wp2;go_ret2;exact⟨rfl,d.o⟩
 change Calls _ _ _ _ (PairEnd (a,0) w)
 go_enter func143,ntmps143
 go_wp2_with fail
 refine(c1.o _ c.o).mono ?_;rintro e o⟨rfl,hb⟩;have g:=qh hb;have d:=qh<|Ag c.o hb;clear hb;have k2:=cell_kept g.o 2;go_wp2;go_ret2;exact⟨rfl,d.o⟩
def XT(v u:V)(w:World)(i:fitV v)(g:fitV u)(lv:v≠.low)(lu:u≠.low)(j:Tab w):Calls prog 147 #[.agg ring2,.string (vtxt v),.string (vtxt u)] w (PairEnd (limV (Av 2 v u)) w):=by
 have c:Below w.heap.size w (w.alloc (.cells ring2 91)):=blr.alloc nlr _;rw[Ca];cases v with
 |low=>exact absurd rfl lv
 |inf =>
  have d:limV (addV .inf u)=(infS,0):=by cases u<;>rfl
  rw[d];have o:((vtxt .inf).toList==[105,110,102])=true:=by show (infS.toList==_)=_;rw[Cg];rfl
  generalize vtxt .inf=a at *;generalize vtxt u=b at *;replace c:=qh c;clear i g lv lu j d;unfold ring2 at c ⊢;unfold infS
  go_enter func147,ntmps147
  go_wp2;go_ret2;exact⟨rfl,c.o⟩
 |fin x =>
  have o:((vtxt (.fin x)).toList==[105,110,102])=false:=GF i;cases u with
  |low=>exact absurd rfl lu
  |inf =>
   have d:limV (addV (.fin x) .inf)=(infS,0):=rfl;rw[d];have p:((vtxt .inf).toList==[105,110,102])=true:=by show (infS.toList==_)=_;rw[Cg];rfl
   generalize vtxt .inf=b at *;generalize vtxt (.fin x)=a at *;replace c:=qh c;clear i g lv lu j d;unfold ring2 at c ⊢;unfold infS
   go_enter func147,ntmps147
   go_wp2;go_ret2;exact⟨rfl,c.o⟩
  |fin y =>
   have p:((vtxt (.fin y)).toList==[105,110,102])=false:=GF g;have l:=Dg i;have m:=Dg g;have c1:=λs (h:Below w.heap.size w s)=>OD (txt x) (txt y) s (by omega) (by omega) (j.below h nlr);have d:Bb (txt x) (txt y)=limV (addV (.fin x) (.fin y)):=by unfold Bb;rw[Bl i,Bl g];rfl
   rw[d]at c1;change Calls _ _ #[_,.string (txt x),.string (txt y)] _ _;change ((txt x).toList==_)=_ at o;change ((txt y).toList==_)=_ at p;generalize limV (addV (.fin x) (.fin y))=lr at *;obtain⟨ls,z⟩:=lr;generalize txt x=a at *;generalize txt y=b at *;replace c1:=qh c1;replace c:=qh c;clear i g lv lu j d l m;unfold ring2 at c ⊢
   go_enter func147,ntmps147
   go_wp2_with fail
   refine nxb (c1.o _ c.o) c λA k=>?_;go_wp2;go_ret2;exact⟨rfl,k.o⟩
def UF(v:V)(w:World)(i:fitV v)(h:Tab w):Calls prog 145 #[.string (vtxt v)] w (PairEnd (limV (Az 1 v)) w):=by
 have c1:=GI v (.fin 0) w i EY h;have g:Az 1 v=if 0<=cmpV v (.fin 0) then .fin 0 else .low:=rfl
 have d:limV (Az 1 v)=(if 0<=cmpV v (.fin 0) then ⟨#[48]⟩ else lowS,0):=by
  rw[g];split
  ·exact(CZ EY).trans (by rw[Dw])
  rfl
 rw[d];change Calls _ _ #[_,.string (txt 0)] _ _ at c1;rw[Dw]at c1;have k:=ES v (.fin 0);generalize cmpV v (.fin 0)=z at *;replace c1:=qh c1;clear h g d;generalize vtxt v=a at *;clear i;unfold lowS
 rcases k with rfl|rfl|rfl
 ·change Calls _ _ _ _ (PairEnd (⟨#[45,105,110,102]⟩,0) w)
  go_enter func145,ntmps145
  go_wp2_with fail
  refine nxa c1.o λj c=>?_;go_wp2;go_ret2;exact⟨rfl,c.o⟩
 ·change Calls _ _ _ _ (PairEnd (⟨#[48]⟩,0) w)
  go_enter func145,ntmps145
  go_wp2_with fail
  refine nxa c1.o λj c=>?_;go_wp2;go_ret2;exact⟨rfl,c.o⟩
 change Calls _ _ _ _ (PairEnd (⟨#[48]⟩,0) w)
 go_enter func145,ntmps145
 go_wp2_with fail
 refine nxa c1.o λj c=>?_;go_wp2;go_ret2;exact⟨rfl,c.o⟩
def Uc(v:V)(w:World)(i:fitV v)(h:Tab w):Calls prog 152 #[.string (vtxt v)] w (PairEnd (limV (Az 3 v)) w):=by
 have c1:=GI v (.fin 1) w i EW h;have g:Az 3 v=if cmpV v (.fin 1)<=0 then .fin 1 else .inf:=rfl
 have d:limV (Az 3 v)=(if cmpV v (.fin 1)<=0 then ⟨#[49]⟩ else infS,0):=by
  rw[g];split
  ·exact(CZ EW).trans (by rw[El])
  rfl
 rw[d];change Calls _ _ #[_,.string (txt 1)] _ _ at c1;rw[El]at c1;have k:=ES v (.fin 1);generalize cmpV v (.fin 1)=z at *;replace c1:=qh c1;clear h g d;generalize vtxt v=a at *;clear i;unfold infS
 rcases k with rfl|rfl|rfl
 ·change Calls _ _ _ _ (PairEnd (⟨#[49]⟩,0) w)
  go_enter func152,ntmps152
  go_wp2_with fail
  refine nxa c1.o λj c=>?_;go_wp2;go_ret2;exact⟨rfl,c.o⟩
 ·change Calls _ _ _ _ (PairEnd (⟨#[49]⟩,0) w)
  go_enter func152,ntmps152
  go_wp2_with fail
  refine nxa c1.o λj c=>?_;go_wp2;go_ret2;exact⟨rfl,c.o⟩
 change Calls _ _ _ _ (PairEnd (⟨#[105,110,102]⟩,0) w)
 go_enter func152,ntmps152
 go_wp2_with fail
 refine nxa c1.o λj c=>?_;go_wp2;go_ret2;exact⟨rfl,c.o⟩
def MU{x:Rat}(m:fitQ x)(k:0<=x)(l:x<1):fitQ (1-x):=by
 have c:=EX.1 m;rw[EX,Rat.sub_def'];obtain⟨g,h⟩:=NG (n:=(1:Rat).num*x.den-x.num*(1:Rat).den) (d:=(1:Rat).den*x.den) (Nat.mul_ne_zero (by decide) x.den_nz);have p:0<=x.num:=Rat.num_nonneg.2 k;have o:x.num<x.den:=by
  have:=(Rat.lt_iff x 1).1 l
  simpa using this
 have i:((1:Rat).num*x.den-x.num*(1:Rat).den).natAbs<=x.den:=by
  rw[Rat.one_num,Rat.one_den];omega
 have j:(1:Rat).den*x.den=x.den:=by rw[Rat.one_den,Nat.one_mul]
 exact⟨Nat.lt_of_le_of_lt (Nat.le_trans g i) c.2,Nat.lt_of_le_of_lt (Nat.le_trans h (Nat.le_of_eq j)) c.2⟩
def XS(v:V)(w:World)(i:fitV v)(d:okV 2 v)(j:Tab w):Calls prog 149 #[.string (vtxt v)] w (PairEnd (limV (Az 2 v)) w):=by
 have c1:=GI v (.fin 1) w i EW j;change Calls _ _ #[_,.string (txt 1)] _ _ at c1;rw[El]at c1
 rcases AG d (by decide) with rfl|⟨x,rfl,E⟩
 ·have g:limV (Az 2 .inf)=(infS,0):=rfl;have C:cmpV .inf (.fin 1)=1:=rfl;rw[g];rw[C]at c1;have k:=qh c1;clear c1 j i d g C;generalize vtxt .inf=a at *;unfold infS
  go_enter func149,ntmps149
  go_wp2_with fail
  refine nxa k.o λD c=>?_;go_wp2;go_ret2;exact⟨rfl,c.o⟩
 have o:Az 2 (.fin x)=if 0<=cmpQ x 1 then .inf else .fin (1 / (1-x)):=rfl
 have s:cmpV (.fin x) (.fin 1)=cmpQ x 1:=rfl;rw[s]at c1
 rcases BJ x 1 with⟨h,e⟩|h
 ·have hf:=MU i E h;have hd:1-x≠0:=Rat.ne_of_gt<|(Rat.lt_iff_sub_pos x 1).1 h;have g:limV (Az 2 (.fin x))=limR (1 / (1-x)):=by rw[o,e];rfl
  have F:=Dg i;have G:=Dg hf;have c2:=λm (h:Below w.heap.size w m)=>Wo ⟨#[49]⟩ (txt x) m (by decide) (by omega) (j.below h nlr);have c3:=λm (h:Below w.heap.size w m)=>Wn ⟨#[49]⟩ (txt (1-x)) m (by decide) (by omega) (j.below h nlr);have A:Cb ⟨#[49]⟩ (txt x)=(txt (1-x),0):=by unfold Cb;rw[Ft,Bl i];exact CZ hf
  have B:Bq ⟨#[49]⟩ (txt (1-x))=limR (1 / (1-x)):=by unfold Bq;rw[Ft,Bl hf];exact ifn hd
  rw[A]at c2;rw[B]at c3;rw[e]at c1;rw[g];change Calls _ _ #[.string (txt x),_] _ _ at c1;change Calls _ _ #[.string (txt x)] _ _;generalize limR (1 / (1-x))=lr at *;obtain⟨ls,H⟩:=lr;generalize txt (1-x)=b at *;generalize txt x=a at *;have k:=qh c1;clear c1;replace c2:=qh c2;replace c3:=qh c3;clear j i d o s h e hf hd g F G A B
  go_enter func149,ntmps149
  go_wp2_with fail
  refine nxa k.o λD c=>?_
  go_wp2_with fail
  refine nxb (c2.o _ c.o) c λI l=>?_
  go_wp2_with fail
  refine nxb (c3.o _ l.o) l λJ p=>?_;go_wp2;go_ret2;exact⟨rfl,p.o⟩
 have u:0<=cmpQ x 1:=by rcases h with⟨_,e⟩|⟨_,e⟩<;>rw[e]<;>decide
 have g:limV (Az 2 (.fin x))=(infS,0):=by rw[o,ifp u];rfl
 rw[g];generalize cmpQ x 1=z at *;generalize vtxt (.fin x)=a at *;have k:=qh c1;clear c1 j i d o s h g;unfold infS
 go_enter func149,ntmps149
 go_wp2_with fail
 refine nxa k.o λD c=>?_;go_wp2;go_ret2;exact⟨rfl,c.o⟩
variable{b o z:ByteArray}{v:V}{c w:World}{J N S W f:FuncId}
def YO(c:k<1\/3<k)(a:ByteArray):vprs k a=none:=by
 cases h:vprs k a with
 |none=>rfl
 |some v=>have:=Dc (Dx.1 h).2;omega
def GH(c:k<1\/3<k)(a:ByteArray):Ak k a=false:=by unfold Ak;rw[YO c];rfl
def Zb(h:wtV k v):k=1\/k=2\/k=3:=by cases v<;>simp only[wtV]at h<;>omega
def YR(c:k<1\/3<k)(a:ByteArray):Am k a=false:=by
 unfold Am;cases rdV a with
 |none=>rfl
 |some v=>show decide (wtV k v)=false;rw[decide_eq_false_iff_not];intro h;have:=Zb h;omega
def Eu(c:k<1\/3<k):Aw k=false:=by unfold Aw;rw[Bool.and_eq_false_iff];simp;omega
def CB(k:Int):k=1\/k=2\/k=3\/(k<1\/3<k):=by omega
def BM(h:Ak k a=true):∃v,vprs k a=some v/\rdV a=some v/\okV k v/\a=vtxt v/\fitV v:=by
 unfold Ak at h;obtain⟨v,d⟩:=Option.isSome_iff_exists.1 h;obtain⟨c,g⟩:=Dx.1 d;exact⟨v,d,c,g,Gn c⟩
def EL(h:Ak k a=false):vprs k a=none:=by
 unfold Ak at h;cases c:vprs k a with
 |none=>rfl
 |some v=>rw[c]at h;simp at h
def Wa(h:Ak k a=false):Ar k a b=(⟨#[]⟩,1):=by unfold Ar;rw[EL h];rfl
def Wb(h:Ak k b=false):Ar k a b=(⟨#[]⟩,1):=by unfold Ar;rw[EL h];cases vprs k a<;>rfl
def Lk(h:Ak k a=false):Ae k a b=(⟨#[]⟩,1):=by unfold Ae;rw[EL h];rfl
def Qb(h:Ak k b=false):Ae k a b=(⟨#[]⟩,1):=by unfold Ae;rw[EL h];cases vprs k a<;>rfl
def Xz(h:Ak k a=false):AO k a=(⟨#[]⟩,1):=by unfold AO;rw[EL h];rfl
def RJ(h:Ak k a=false):Bn k a b=0:=by unfold Bn;rw[EL h]
theorem RL(h:Ak k b=false):Bn k a b=0:=by unfold Bn;rw[EL h];cases vprs k a<;>rfl
theorem QR:Aj 1=⟨#[105,110,102]⟩:=rfl
theorem Fz:Aj 2=⟨#[48]⟩:=Dw
theorem FA:Aj 3=⟨#[48]⟩:=Dw
def Zg(c:k<1\/3<k):Aj k=⟨#[]⟩:=by unfold Aj;rw[Eu c];rfl
theorem Ge:oneF 1=⟨#[48]⟩:=Dw
theorem Gf:oneF 2=⟨#[49]⟩:=El
theorem Gg:oneF 3=⟨#[49]⟩:=El
def On(c:k<1\/3<k):oneF k=⟨#[]⟩:=by unfold oneF;rw[Eu c];rfl
def Qq(h:fitV v):((vtxt v).toList==[105,110,102])=decide (v=.inf):=by
 cases v with
 |inf=>show (infS.toList==_)=_;rw[Cg];rfl
 |low=>show (lowS.toList==_)=_;rw[Da];rfl
 |fin q=>show ((txt q).toList==_)=_;rw[GF h];rfl
def Qr(h:fitV v):((vtxt v).toList==[45,105,110,102])=decide (v=.low):=by
 cases v with
 |inf=>show (infS.toList==_)=_;rw[Cg];rfl
 |low=>show (lowS.toList==_)=_;rw[Da];rfl
 |fin q=>show ((txt q).toList==_)=_;rw[Lm h];rfl
def Qs(h:fitV v):((vtxt v).toList==[48])=decide (v=.fin 0):=by
 cases v with
 |inf=>show (infS.toList==_)=_;rw[Cg];rfl
 |low=>show (lowS.toList==_)=_;rw[Da];rfl
 |fin q =>
  show ((txt q).toList==_)=_;by_cases c:q=0
  ·subst c;rw[Dw,Lib.toList_data];simp
  rw[decide_eq_false (λe=>c (by injection e))];exact BQ (l:=[48]) (λe=>c (Yw h EY (e.trans Dw.symm)))
def Nt:limV (.fin 0)=(⟨#[48]⟩,0):=(CZ EY).trans (by rw[Dw])
def nx1{P:Program}{c:Array Value}{R:Ending}{Q:Ending->World->Prop}(h:Calls P f c w (λe w'=>e=R/\Below w.heap.size w w'))(k:∀w',Hd (Below w.heap.size w w')->Q R w'):Calls P f c w Q :=
 h.mono λe w' d=>by rw[d.1];exact k w' d.2
def nx2{P:Program}{d:Array Value}{R:Ending}{Q:Ending->World->Prop}(h:Calls P f d w (λe w'=>e=R/\Below w.heap.size w w'))(B:Hd (Below c.heap.size c w))(k:∀w',Hd (Below c.heap.size c w')->Q R w'):Calls P f d w Q :=
 h.mono λe w' g=>by rw[g.1];exact k w' (Below.trans B (g.2.mono (Below.size B)))
def Hu(h:Aw k=false):k<1\/3<k:=by
 rcases CB k with rfl|rfl|rfl|c
 ·cases h
 ·cases h
 ·cases h
 exact c
def KM(h:Aw k=false):Fw k=ring0:=by
 have:=Hu h;unfold Fw;rw[ifn (by omega),ifn (by omega),ifn (by omega)]
def BH(z o:ByteArray)(l:Bool)(P J S N W:FuncId):Array Value:=#[.string z,.string o,.bool l,fv P,fv J,fv S,fv N,fv W]
def EnF(f:FuncId):Prop:=∀args w,(callFunc f args).run prog w=.ok (.enter f args) w
def nmF(k:Int)(a:ByteArray):Bool:=if k=1 then (prs a).isSome else natB a
structure RgK(k:Int)(P J S N W:FuncId):Prop where
 eP:EnF P
 eJ:EnF J
 eS:EnF S
 eN:EnF N
 eW:EnF W
 cN:∀a w,a.size<=9223372036854775807->Tab w->Calls prog N #[.string a] w (BoolE (nmF k a) w)
 cW:∀a w,a.size<=9223372036854775807->Tab w->Calls prog W #[.string a] w (BoolE (Am k a) w)
 cP:∀a b w,Ak k a=true->Ak k b=true->Tab w->Calls prog P #[.agg (BH (Aj k) (oneF k) (decide (k=1)) P J S N W),.string a,.string b] w (PairEnd (Ar k a b) w)
 cJ:∀a b w,a.size<=9223372036854775807->b.size<=9223372036854775807->Tab w->Calls prog J #[.string a,.string b] w (PairEnd (if k=1 then Bb a b else BR a b) w)
 cS:∀a w,Ak k a=true->Tab w->Calls prog S #[.string a] w (PairEnd (AO k a) w)
def Km{u:V}(c:vprs k a=some v)(d:vprs k b=some u):Ar k a b=limV (Av k v u):=by unfold Ar;rw[c,d]
theorem KO(h:Aw k=true):∃P J S N W,Fw k=BH (Aj k) (oneF k) (decide (k=1)) P J S N W/\RgK k P J S N W:=by
 rcases CB k with rfl|rfl|rfl|B
 ·refine⟨143,144,145,146,146,by rw[Ge];rfl,λc w=>by kernel_rfl,λc w=>by kernel_rfl,λc w=>by kernel_rfl,λc w=>by kernel_rfl,λc w=>by kernel_rfl,
   λa w i d=>OI a w i d,λa w i d=>by rw[YQ];exact OI a w i d,λa b w l s d=>?_,λa b w i hb d=>OD a b w i hb d,λa w l d=>?_⟩
  ·obtain⟨v,m,_,_,j,g⟩:=BM l;obtain⟨u,z,_,_,o,p⟩:=BM s;rw[Km m z,j,o,Ge];exact Se v u w g p d
  obtain⟨v,m,_,_,j,g⟩:=BM l;rw[show AO 1 a=limV (Az 1 v) by unfold AO;rw[m],j];exact UF v w g d
 ·refine⟨147,148,149,150,151,by rw[Gf,Fz];rfl,λc w=>by kernel_rfl,λc w=>by kernel_rfl,λc w=>by kernel_rfl,λc w=>by kernel_rfl,λc w=>by kernel_rfl,
   λa w i d=>NP a w i d,λa w i d=>by rw[QG (by omega)];exact Ox a w i d,λa b w l s d=>?_,λa b w i hb d=>OF a b w i hb d,λa w l d=>?_⟩
  ·obtain⟨v,m,_,A,j,g⟩:=BM l;obtain⟨u,z,_,C,o,p⟩:=BM s;rw[Km m z,j,o,Gf,Fz];exact XT v u w g p (AC A (by decide)) (AC C (by decide)) d
  obtain⟨v,m,_,A,j,g⟩:=BM l;rw[show AO 2 a=limV (Az 2 v) by unfold AO;rw[m],j];exact XS v w g A d
 ·refine⟨143,148,152,150,151,by rw[Gg,FA];rfl,λc w=>by kernel_rfl,λc w=>by kernel_rfl,λc w=>by kernel_rfl,λc w=>by kernel_rfl,λc w=>by kernel_rfl,
   λa w i d=>NP a w i d,λa w i d=>by rw[QG (by omega)];exact Ox a w i d,λa b w l s d=>?_,λa b w i hb d=>OF a b w i hb d,λa w l d=>?_⟩
  ·obtain⟨v,m,_,_,j,g⟩:=BM l;obtain⟨u,z,_,_,o,p⟩:=BM s;rw[Km m z,j,o,Gg,FA];exact Sf v u w g p d
  obtain⟨v,m,_,_,j,g⟩:=BM l;rw[show AO 3 a=limV (Az 3 v) by unfold AO;rw[m],j];exact Uc v w g d
 rw[Eu B]at h;cases h
def YG(i:Aw k=true)(a:ByteArray):Ak k a=((a.toList==[105,110,102])||((a.toList==[45,105,110,102])&&decide (k=1))||nmF k a):=by
 have m:k=1\/k=2\/k=3:=by
  rcases CB k with h|h|h|h
  ·exact .inl h
  ·exact .inr (.inl h)
  ·exact .inr (.inr h)
  rw[Eu h]at i;cases i
 by_cases d:a=infS
 ·rw[d,Qv m,Cg];rfl
 have j:(a.toList==[105,110,102])=false:=BQ (l:=[105,110,102]) d;rw[j];unfold nmF;by_cases c:k=1
 ·subst c;by_cases g:a=lowS
  ·rw[g,Da,Qw];rfl
  rw[BQ (l:=[45,105,110,102]) g,Qt d g];rfl
 rw[Qu (by omega) d];simp[c]
theorem CI{d:World}(h:Below w.heap.size w c)(B:Hd (Below c.heap.size c d)):Below w.heap.size w d:=h.trans<|Below.mono B h.size
def OS{P:FuncId}(s:Aw k=true)(i:RgK k P J S N W)(a:ByteArray)(w:World)(p:a.size<=9223372036854775807)(u:Tab w):Calls prog 57 #[.agg (BH z o (decide (k=1)) P J S N W),.string a] w (BoolE (Ak k a) w):=by
 have c:=qh<|show Below w.heap.size w (w.alloc (.cells (BH z o (decide (k=1)) P J S N W) 91)) from blr.alloc nlr _;have C:=qh λA (h:Below w.heap.size w A)=>i.cN a A p (u.below h nlr);have d:=qh<|YG s a;have j:=i.eN;unfold EnF at j;clear i p u s;unfold BH at c ⊢;generalize decide (k=1)=l,nmF k a=nm,Ak k a=va at *
 go_enter func57,ntmps57
 cases g:(a.toList==[105,110,102])
 rotate_left
 ·go_wp2;go_ret;exact⟨by rw[d.o,g];rfl,c.o⟩
 cases m:(a.toList==[45,105,110,102])<;>cases l
 rotate_right
 ·go_wp2;go_ret;exact⟨by rw[d.o,g,m];rfl,c.o⟩
 all_goals
  rw[g,m]at d
  go_wp2_with fail
  refine nx1 (C.o _ c.o) λD B=>?_;go_wp2;go_ret;exact⟨by rw[d.o];rfl,CI c.o B⟩
def WM{wk:World}{l:Bool}{P:FuncId}(h:Below (w.alloc (.cells (BH z o l P J S N W) 91)).heap.size (w.alloc (.cells (BH z o l P J S N W) 91)) wk):
  wk.cell? (Ad w.heap.size 0)=some (.string z)/\wk.cell? (Ad w.heap.size 1)=some (.string o)/\wk.cell? (Ad w.heap.size 2)=some (.bool l)/\wk.cell? (Ad w.heap.size 3)=some (fv P)/\wk.cell? (Ad w.heap.size 4)=some (fv J)/\wk.cell? (Ad w.heap.size 5)=some (fv S)/\wk.cell? (Ad w.heap.size 6)=some (fv N)/\wk.cell? (Ad w.heap.size 7)=some (fv W) :=
 ⟨(cell_kept h 0).trans rfl,(cell_kept h 1).trans rfl,(cell_kept h 2).trans rfl,(cell_kept h 3).trans rfl,(cell_kept h 4).trans rfl,(cell_kept h 5).trans rfl,(cell_kept h 6).trans rfl,(cell_kept h 7).trans rfl⟩
def Iz(k:Int)(a:ByteArray)(w:World)(s:a.size<=9223372036854775807)(u:Tab w):Calls prog 68 #[.int .i64 k,.string a] w (BoolE (Am k a) w):=by
 have d:=qh<|Kg k w;cases g:Aw k
 ·rw[YR (Hu g)];rw[KM g,g]at d;unfold OfEnd ring0 at d
  go_enter func68,ntmps68
  go_wp2_with fail
  refine nx1 d.o λD c=>?_;go_wp2;go_ret;exact⟨rfl,c.o.alloc c.o.size _⟩
 obtain⟨P,J,S,N,W,p,j⟩:=KO g;rw[p,g]at d;have C:=qh λA (h:Below w.heap.size w A)=>j.cW a A s (u.below h nlr);have m:=j.eW;unfold EnF at m;clear p g j s u;generalize decide (k=1)=l,Aj k=z,oneF k=o,Am k a=va at *;unfold OfEnd BH at d
 go_enter func68,ntmps68
 go_wp2_with fail
 refine nx1 d.o λD c=>?_;have i:=qh<|c.o.alloc c.o.size (.cells (BH z o l P J S N W) 91);unfold BH at i;clear c
 go_wp2_with fail
 refine nx2 (C.o _ i.o) i λE B=>?_;go_wp2;go_ret;exact⟨rfl,B.o⟩
def Gt(k:Int)(w:World):Calls prog 60 #[.int .i64 k] w (StrE (oneF k) w):=by
 have d:=qh<|Kg k w;cases g:Aw k
 ·rw[On (Hu g)];rw[KM g,g]at d;unfold OfEnd ring0 at d
  go_enter func60,ntmps60
  go_wp2_with fail
  refine nx1 d.o λm c=>?_;go_wp2;go_ret;exact⟨rfl,c.o.alloc c.o.size _⟩
 obtain⟨P,J,S,N,W,i,j⟩:=KO g;rw[i,g]at d;clear i g j;generalize decide (k=1)=l,Aj k=z,oneF k=o at *;unfold OfEnd BH at d
 go_enter func60,ntmps60
 go_wp2_with fail
 refine nx1 d.o λm c=>?_;have h:=qh<|c.o.alloc c.o.size (.cells (BH z o l P J S N W) 91);unfold BH at h;clear c;go_wp2;go_ret;exact⟨rfl,h.o⟩
def index3z(w:World)(z:ByteArray):(Instr.index 94 (.agg #[.string z,.string ⟨#[105,110,102]⟩,.string ⟨#[45,105,110,102]⟩]) (.int .i64 0)).run prog w=.ok (.string z) w/\
  (Instr.index 94 (.agg #[.string z,.string ⟨#[105,110,102]⟩,.string ⟨#[45,105,110,102]⟩]) (.int .i64 1)).run prog w=.ok (.string ⟨#[105,110,102]⟩) w/\
  (Instr.index 94 (.agg #[.string z,.string ⟨#[105,110,102]⟩,.string ⟨#[45,105,110,102]⟩]) (.int .i64 2)).run prog w=.ok (.string ⟨#[45,105,110,102]⟩) w:=⟨by kernel_rfl,by kernel_rfl,by kernel_rfl⟩
def IT(h:Ak k a=true):∃v,vprs k a=some v/\okV k v/\a=vtxt v/\fitV v/\(a.toList==[105,110,102])=decide (v=.inf)/\(a.toList==[45,105,110,102])=decide (v=.low)/\(a.toList==[48])=decide (v=.fin 0)/\(a.toList==(Aj k).toList)=decide (v=zeroV k):=by
 obtain⟨v,l,_,j,c,fv⟩:=BM h;have g:(a.toList==[105,110,102])=decide (v=.inf):=by rw[c];exact Qq fv
 have d:(a.toList==[48])=decide (v=.fin 0):=by rw[c];exact Qs fv
 refine⟨v,l,j,c,fv,g,by rw[c];exact Qr fv,d,?_⟩
 rcases CB k with rfl|rfl|rfl|i
 ·rw[show (Aj 1).toList=[105,110,102] from Cg,show zeroV 1=.inf from rfl];exact g
 ·rw[Fz,show (⟨#[48]⟩:ByteArray).toList=[48] by rw[Lib.toList_data],show zeroV 2=.fin 0 from rfl];exact d
 ·rw[FA,show (⟨#[48]⟩:ByteArray).toList=[48] by rw[Lib.toList_data],show zeroV 3=.fin 0 from rfl];exact d
 rw[GH i]at h;cases h
def Qa(g:Ak k a=true)(C:Ak k b=true):Ae k a b=bif (a.toList==(Aj k).toList)||(b.toList==(Aj k).toList) then (Aj k,0) else bif (a.toList==[105,110,102])||(b.toList==[105,110,102]) then (⟨#[105,110,102]⟩,0) else
  bif (a.toList==[45,105,110,102])||(b.toList==[45,105,110,102]) then (⟨#[45,105,110,102]⟩,0) else (if k=1 then Bb a b else BR a b):=by
 obtain⟨v,G,I,i,fv,o,p,_,s⟩:=IT g;obtain⟨u,F,H,j,l,z,A,_,B⟩:=IT C;rw[o,p,s,z,A,B];have E:Ae k a b=limV (Ah k v u):=by unfold Ae;rw[G,F]
 have m:limV (zeroV k)=(Aj k,0):=by
  rcases CB k with rfl|rfl|rfl|D
  ·rfl
  ·rw[Fz];exact Nt
  ·rw[FA];exact Nt
  rw[GH D]at g;cases g
 rw[E];unfold Ah;by_cases d:v=zeroV k
 ·rw[ifp (.inl d),m];simp[d]
 by_cases c:u=zeroV k
 ·rw[ifp (.inr c),m];simp[c]
 rw[ifn (by rintro(h|h);exact d h;exact c h)]
 simp only[d,c,decide_false,Bool.or_false,cond_false];cases v with
 |inf=>rfl
 |low=>cases u<;>rfl
 |fin x =>
  cases u with
  |inf=>rfl
  |low=>rfl
  |fin y =>
   simp only[show (V.fin x=V.inf)=False by simp,show (V.fin y=V.inf)=False by simp,show (V.fin x=V.low)=False by simp,show (V.fin y=V.low)=False by simp,decide_false,Bool.or_false,cond_false]
   split
   ·rw[i,j];show limR (x+y)=Bb (txt x) (txt y);unfold Bb;rw[Bl fv,Bl l]
   rw[i,j];show limR (x*y)=BR (txt x) (txt y);unfold BR;rw[Bl fv,Bl l]
theorem Pt(k:Int)(a b:ByteArray)(w:World)(Z:a.size<=9223372036854775807)(hb:b.size<=9223372036854775807)(Q:Tab w):Calls prog 23 #[.int .i64 k,.string a,.string b] w (PairEnd (Ae k a b) w):=by
 have A:=qh<|Kg k w;cases m:Aw k
 ·rw[Lk (GH (Hu m) a)];rw[KM m,m]at A;unfold OfEnd ring0 at A
  go_enter func23,ntmps23
  go_wp2_with fail
  refine nx1 A.o λR u=>?_;go_wp2;go_ret2;exact⟨rfl,u.o.alloc u.o.size _⟩
 obtain⟨P,J,S,N,W,hV,K⟩:=KO m;rw[hV,m]at A;have E:=qh λc (h:Below w.heap.size w c)=>OS (z:=Aj k) (o:=oneF k) m K a c Z (Q.below h nlr);have F:=qh λc (h:Below w.heap.size w c)=>OS (z:=Aj k) (o:=oneF k) m K b c hb (Q.below h nlr);have C:=qh λh=>Lk (k:=k) (a:=a) (b:=b) h;have D:=qh λh=>Qb (k:=k) (a:=a) (b:=b) h;have HC:=qh λH I=>Qa (k:=k) (a:=a) (b:=b) H I;have HJ:=qh λc (h:Below w.heap.size w c)=>K.cJ a b c Z hb (Q.below h nlr);have X:=qh λc=>index3z c (Aj k);generalize (if k=1 then Bb a b else BR a b)=q at *
 obtain⟨qa,qb⟩:=q;have a1:=K.eJ;unfold EnF at a1;clear hV m K Z hb Q;generalize hl:decide (k=1)=l,Aj k=z,oneF k=o,Ae k a b=r at *;replace hl:=qh hl;unfold BH at E F;unfold OfEnd BH at A
 go_enter func23,ntmps23
 go_wp2_with fail
 refine nx1 A.o λR u=>?_;have d:=qh<|u.o.alloc u.o.size (.cells (BH z o l P J S N W) 91);obtain⟨T,g⟩:=exq<|R.alloc (.cells (BH z o l P J S N W) 91);obtain⟨rb,s⟩:=exq<|R.heap.size;have U:=qh λwk (h:Below T.heap.size T wk)=>WM (w:=R) (wk:=wk) (z:=z) (o:=o) (l:=l) (P:=P) (J:=J) (S:=S) (N:=N) (W:=W) (by rw[<-g];exact h);rw[<-s]at U;rw[<-g]at d;unfold BH at g
 go_wp2_with fail
 rw[<-g,<-s];clear g s u;refine nx1 (E.o _ d.o) λw2 L=>?_;obtain⟨q0,q1,q2,q3,q4,q5,q6,q7⟩:=U.o w2 L.o;cases H:Ak k a
 ·go_wp2;go_ret2;exact⟨by rw[C.o H];rfl,CI d.o L⟩
 go_wp2_with fail
 clear q0 q1 q2 q3 q4 q5 q6 q7;refine nx2 (F.o _ (CI d.o L)) L λw3 i=>?_;obtain⟨q0,q1,q2,q3,q4,q5,q6,q7⟩:=U.o w3 i.o;cases I:Ak k b
 ·go_wp2;go_ret2;exact⟨by rw[D.o I];rfl,CI d.o i⟩
 have H1:=qh H;clear H;have H2:=qh I;clear I;have j:=qh<|HC.o H1.o H2.o;clear HC C D H1 H2;have x0:=λc=>(X.o c).1;have x1:=λc=>(X.o c).2.1;have x2:=λc=>(X.o c).2.2
 go_wp2_with fail
 cases p:(a.toList==z.toList)
 rotate_left
 ·refine wp_loop_rounds 4 ?_;rw[rounds_succ];go_wp2;go_ret2;exact⟨by rw[j.o,p];rfl,CI d.o i⟩
 cases B:(b.toList==z.toList)
 rotate_left
 ·refine wp_loop_rounds 4 ?_;rw[rounds_succ];go_wp2;go_ret2;exact⟨by rw[j.o,p,B];rfl,CI d.o i⟩
 cases G:(a.toList==[105,110,102])
 rotate_left
 ·refine wp_loop_rounds 4 ?_;rw[rounds_succ];go_wp2_with fail;rw[rounds_succ];go_wp2;go_ret2;exact⟨by rw[j.o,p,B,G];rfl,CI d.o i⟩
 cases O:(b.toList==[105,110,102])
 rotate_left
 ·refine wp_loop_rounds 4 ?_;rw[rounds_succ];go_wp2_with fail;rw[rounds_succ];go_wp2;go_ret2;exact⟨by rw[j.o,p,B,G,O];rfl,CI d.o i⟩
 cases Y:(a.toList==[45,105,110,102])
 rotate_left
 ·refine wp_loop_rounds 4 ?_;rw[rounds_succ];go_wp2_with fail;rw[rounds_succ];go_wp2_with fail;rw[rounds_succ];go_wp2;go_ret2;exact⟨by rw[j.o,p,B,G,O,Y];rfl,CI d.o i⟩
 cases e6:(b.toList==[45,105,110,102])
 rotate_left
 ·refine wp_loop_rounds 4 ?_;rw[rounds_succ];go_wp2_with fail;rw[rounds_succ];go_wp2_with fail;rw[rounds_succ];go_wp2;go_ret2;exact⟨by rw[j.o,p,B,G,O,Y,e6];rfl,CI d.o i⟩
 rw[p,B,G,O,Y,e6]at j;refine wp_loop_rounds 4 ?_;rw[rounds_succ];go_wp2_with fail;rw[rounds_succ];go_wp2_with fail;rw[rounds_succ];go_wp2_with fail;rw[rounds_succ];go_wp2_with fail;refine nx2 (HJ.o _ (CI d.o i)) i λw4 B4=>?_;go_wp2;go_ret2;exact⟨by rw[j.o];rfl,CI d.o B4⟩

def FU(v:V):(limV v).1.size<=802:=by
 cases v with
 |inf=>show 3<=802;omega
 |low=>show 4<=802;omega
 |fin q=>exact Nq q
def Jb:argS.1.size<=802:=by show 0<=802;omega
def Wc(k:Int)(a b:ByteArray):(Ar k a b).1.size<=802:=by unfold Ar;split<;>first|exact FU _|exact Jb
def Ye(k:Int)(a b:ByteArray):(Ae k a b).1.size<=802:=by unfold Ae;split<;>first|exact FU _|exact Jb
def XA(k:Int)(a:ByteArray):(AO k a).1.size<=802:=by unfold AO;split<;>first|exact FU _|exact Jb
def QS(k:Int):(Aj k).size<=100000:=by
 rcases CB k with rfl|rfl|rfl|c
 ·rw[QR];decide
 ·rw[Fz];decide
 ·rw[FA];decide
 rw[Zg c];decide
def VA(k:Int):(oneF k).size<=100000:=by
 rcases CB k with rfl|rfl|rfl|c
 ·rw[Ge];decide
 ·rw[Gf];decide
 ·rw[Gg];decide
 rw[On c];decide
end
end Go.Proofs.YtpldocnhbdlgfaaGreatDoor
