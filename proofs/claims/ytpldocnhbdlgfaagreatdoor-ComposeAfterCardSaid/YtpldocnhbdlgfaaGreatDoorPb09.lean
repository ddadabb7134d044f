/- Parts. -/
import Derived.Test.YtpldocnhbdlgfaaGreatDoorPb07
namespace Go.Proofs.YtpldocnhbdlgfaaGreatDoor
set_option maxRecDepth 100000
set_option linter.all false
set_option maxHeartbeats 16000000
open Go Tryz
section
open Go.RowKit
theorem Rk(w:World):(Instr.typeAssert .nilIface 20 209 true).run prog w=.ok (.tuple #[.agg #[],.bool false]) w:=by kernel_rfl
theorem Rj(w:World):(Instr.typeAssert (.iface 209 (.agg #[])) 20 209 true).run prog w=.ok (.tuple #[.agg #[],.bool true]) w:=by kernel_rfl
def RF(p q:Addr)(w:World):
  CallsD prog 227 #[.pointer (some p),.pointer (some q)] .returning w λe u' w'=>e=.returned (.tuple #[])/\u'=.returning/\Below w.heap.size w w':=by
 have d:Below w.heap.size w (w.alloc (.cells #[] 209)):=blr.alloc nlr _;refine callsD_of_wpS func227 rfl λi h g=>?_;simp only[ntmps227,List.size_toArray,List.length_cons,List.length_nil,Nat.reduceAdd,Nat.reduceSub,Array.replicate_succ,
   Array.replicate_zero,List.push_toArray,List.append_toArray,List.nil_append,List.cons_append]
 apply wpS_seq
 apply wpS_region
 simp[wpOpsS,go_sem,recoverD,g,Exit.thenS,Rk];refine wpS_of_wp ?_;go_wp2;refine⟨rfl,.returning,?_,.tuple #[],?_,rfl,rfl,d⟩
 ·rw[<-g]
 exact results_none rfl _ _ _
def RG(b c:Nat)(w:World)(s:ByteArray)(n:Int)(z:w.cell? (Ad b 0)=some (.string s))(A:w.cell? (Ad c 0)=some (.int .i64 n))(F:w.frozen? (Ad b 0)=false)(G:w.frozen? (Ad c 0)=false)(hb:b<w.heap.size)(u:c<w.heap.size)(d:¬b=c):
  CallsD prog 227 #[.pointer (some (Ad b 0)),.pointer (some (Ad c 0))] (.panicking ({ v:=.iface 209 (.agg #[]),recovered:=false }::[])) w λe u' w' =>
   e=.returned (.tuple #[])/\u'=.panicking ({ v:=.iface 209 (.agg #[]),recovered:=true }::[])/\w'.cell? (Ad b 0)=some (.string ⟨#[]⟩)/\w'.cell? (Ad c 0)=some (.int .i64 2)/\
    ∀B a,Below B a w->B<=b->B<=c->Below B a w':=by
 refine callsD_of_wpS func227 rfl λE D C=>?_;simp only[ntmps227,List.size_toArray,List.length_cons,List.length_nil,Nat.reduceAdd,Nat.reduceSub,Array.replicate_succ,
   Array.replicate_zero,List.push_toArray,List.append_toArray,List.nil_append,List.cons_append]
 apply wpS_seq
 apply wpS_region
 simp[wpOpsS,go_sem,recoverD,C,Exit.thenS,Rj];refine wpS_of_wp ?_;go_wp2;have i:(w.setCell (Ad b 0) (.string ⟨#[]⟩)).cell? (Ad b 0)=some (.string ⟨#[]⟩):=World.cell?_setCell_same _ _ _ z;have j:(w.setCell (Ad b 0) (.string ⟨#[]⟩)).cell? (Ad c 0)=some (.int .i64 n):=(World.cell?_setCell_other _ (Ad b 0) (Ad c 0) _ (λe=>d (by injection e))).trans A;have k:=World.cell?_setCell_same _ _ (.int .i64 2) j;have l:=(World.cell?_setCell_other _ (Ad c 0) (Ad b 0) (.int .i64 2) (λe=>d (by injection e with e _;exact e.symm))).trans i;have g:∀(x y:Value),((w.setCell (Ad b 0) x).setCell (Ad c 0) y).heap.size=w.heap.size:=λx y=>by simp
 refine⟨rfl,.panicking [{ v:=.iface 209 (.agg #[]),recovered:=true }],rfl,.tuple #[],results_none rfl _ _ _,rfl,rfl,?_,?_,?_⟩
 ·rw[World.cell?_alloc_past (hn:=by rw[g];exact hb)];exact l
 ·rw[World.cell?_alloc_past (hn:=by rw[g];exact u)];exact k
 intro B a h m o;have p:B<=w.heap.size:=by omega
 exact((h.setCell m _).setCell o _).alloc (by rw[g];exact p) _
def PR{w wk:World}{a b:Value}{t u:TypeId}(h:Below ((w.alloc (.cells #[a] t)).alloc (.cells #[b] u)).heap.size ((w.alloc (.cells #[a] t)).alloc (.cells #[b] u)) wk):
  wk.cell? (Ad w.heap.size 0)=some a/\wk.cell? (Ad (w.heap.size+1) 0)=some b/\wk.frozen? (Ad w.heap.size 0)=false/\wk.frozen? (Ad (w.heap.size+1) 0)=false/\w.heap.size+1<wk.heap.size:=by
 have g:=h.size;have e:((w.alloc (.cells #[a] t)).alloc (.cells #[b] u)).heap.size=w.heap.size+1+1:=by simp
 rw[e]at g;have c:w.heap.size<((w.alloc (.cells #[a] t)).alloc (.cells #[b] u)).heap.size:=by rw[e];omega
 have d:w.heap.size+1<((w.alloc (.cells #[a] t)).alloc (.cells #[b] u)).heap.size:=by rw[e];omega
 refine⟨?_,?_,?_,?_,by omega⟩
 ·exact(h.cell (p:=(Ad w.heap.size 0)) c).trans (by simp[go_sem])
 ·exact(h.cell (p:=(Ad (w.heap.size+1) 0)) d).trans (by simp[go_sem])
 ·exact(h.frozen (p:=(Ad w.heap.size 0)) c).trans (by simp[go_sem])
 exact(h.frozen (p:=(Ad (w.heap.size+1) 0)) d).trans (by simp[go_sem])
def Te:∀args w,(callFunc 211 args).run prog w=.ok (.enter 211 args) w:=λargs w=>by kernel_rfl
def NY{fn:Func}{p u:Tmp}(h:fn.results=#[.cell p 9,.cell u 32])(d:Array Value)(W:World)(b c:Nat)(s:ByteArray)(n:Int)
  (j:d.getD p undef=.pointer (some (Ad b 0))) (k:d.getD u undef=.pointer (some (Ad c 0))) (c0:W.cell? (Ad b 0)=some (.string s)) (c1:W.cell? (Ad c 0)=some (.int .i64 n)) :
  (results fn d).run prog W=.ok (.tuple #[.string s,.int .i64 n]) W:=by
 have g:d[p]?.getD undef=.pointer (some (Ad b 0)):=by rw[<-j];simp
 have i:d[u]?.getD undef=.pointer (some (Ad c 0)):=by rw[<-k];simp
 simp only[results,h];simp[g,i,go_sem,c0,c1]
theorem YM(j:Array Value)(q:Rat)(w:World)(i:∀wx,Below w.heap.size w wx->Calls prog 211 j wx (QEnd q wx)):
  Calls prog 210 #[.func (.func 211) #[] j] w (PairEnd (limR q) w):=by
 have K:∀(fn:Fn) (first cap:Array Value) (w:World),(Instr.makeFunc fn first cap).run prog w=.ok (.func fn first cap) w:=λ_ _ _ _=>rfl
 have J:=Te;have c:Below w.heap.size w ((w.alloc (.cells #[.string ⟨#[]⟩] 9)).alloc (.cells #[.int .i64 0] 32)):=(blr.alloc nlr _).alloc (by simp) _;replace c:=qh c;replace i:=qh i;by_cases hf:fitQ q
 ·rw[CX hf];have s:=qh hf;clear hf
  go_enter_defers func210,ntmps210
  go_wp2_with fail
  have g:=i.o _ c.o;unfold QEnd at g;rw[ifp s.o]at g;refine g.mono ?_;clear g;rintro e F⟨rfl,d⟩;have h:=qh d;clear d
  go_wp2_with fail
  refine(UW q F s.o).mono ?_;rintro e o⟨rfl,m⟩;have l:=qh<|Af h.o m;clear m;obtain⟨B,k1,D,E,k⟩:=PR l.o
  go_wp2_with fail
  have u:=World.cell?_setCell_same _ _ (.string (txt q)) B;have z:=(World.cell?_setCell_other o (Ad w.heap.size 0) (Ad (w.heap.size+1) 0) (.string (txt q)) (λe=>by injection e;omega)).trans k1;have G:=World.cell?_setCell_same _ _ (.int .i64 0) z;have H:=(World.cell?_setCell_other (o.setCell (Ad w.heap.size 0) (.string (txt q))) (Ad (w.heap.size+1) 0) (Ad w.heap.size 0) (.int .i64 0) (λe=>by injection e;omega)).trans u;have A:((o.setCell (Ad w.heap.size 0) (.string (txt q))).setCell (Ad (w.heap.size+1) 0) (.int .i64 0)).heap.size=o.heap.size:=by simp
  refine leaves_cons (f:=227) (args:=#[.pointer (some (Ad w.heap.size 0)),.pointer (some (Ad (w.heap.size+1) 0))]) (by simp) (by simp[go_sem]) ?_;refine(RF _ _ _).mono ?_;rintro e L C⟨rfl,rfl,hb⟩;refine⟨_,NY rfl _ _ w.heap.size (w.heap.size+1) (txt q) 0 rfl rfl ?_ ?_,rfl,?_⟩
  ·exact(hb.cell (p:=(Ad w.heap.size 0)) (by rw[A];show w.heap.size<_;omega)).trans H
  ·exact(hb.cell (p:=(Ad (w.heap.size+1) 0)) (by rw[A];exact k)).trans G
  have I:Below w.heap.size w o:=Af c.o l.o;exact((I.setCell nlr _).setCell (Nat.le_succ _) _).trans (hb.mono (by rw[A];omega))
 rw[Na hf];have s:=qh hf;clear hf
 go_enter_defers func210,ntmps210
 go_wp2_with fail
 have g:=i.o _ c.o;unfold QEnd at g;rw[ifn s.o]at g;unfold PT at g;refine g.mono ?_;clear g;rintro e F⟨rfl,d⟩;have h:=qh d;clear d;obtain⟨B,k1,D,E,k⟩:=PR h.o;refine leaves_cons (f:=227) (args:=#[.pointer (some (Ad w.heap.size 0)),.pointer (some (Ad (w.heap.size+1) 0))]) (by simp) (by simp[go_sem]) ?_;refine(RG _ _ _ _ _ B k1 D E (by omega) k (by omega)).mono ?_;rintro e L C⟨rfl,rfl,u,z,hb⟩;exact⟨_,NY rfl _ _ w.heap.size (w.heap.size+1) ⟨#[]⟩ 2 rfl rfl u z,rfl,hb _ _ (Af c.o h.o) nlr (Nat.le_succ _)⟩
end
section
open Go.RowKit
attribute [local go_sem ↓] Go.wp_at_zero Go.wp_at_succ
def QS(p q:Bool)(h k i l a b c d:ByteArray)(s:Bool)(E:Ending)(w:World)(P:(∃r x y,E=.returned (.agg #[.bool r,.string x,.string y]))\/E=PT)
  (c1:∀wx,Below w.heap.size w wx->Calls prog 166 #[.string h,.string l] wx (StrZ a wx))
  (c2:∀wx,Below w.heap.size w wx->Calls prog 166 #[.string i,.string k] wx (StrZ b wx))
  (c3:∀wx,Below w.heap.size w wx->Calls prog 164 #[.bool p,.string a,.bool q,.string b] wx λe w'=>e=.returned (.tuple #[.bool s,.string c])/\Below wx.heap.size wx w')
  (c4:∀wx,Below w.heap.size w wx->Calls prog 166 #[.string k,.string l] wx (StrZ d wx))
  (c5:∀wx,Below w.heap.size w wx->Calls prog 180 #[.bool s,.string c,.string d] wx λe w'=>e=E/\Below wx.heap.size wx w') :
  Calls prog 179 #[nvS p h k,nvS q i l] w λe w'=>e=E/\Below w.heap.size w w':=by
 replace c1:=qh c1;replace c2:=qh c2;replace c3:=qh c3;replace c4:=qh c4;replace c5:=qh c5;have g:=qh<|GJ p q h k i l w;have Q:Below (WR p q h k i l w).heap.size (WR p q h k i l w) (WR p q h k i l w).drew:=blr.drew;unfold nvS
 rcases P with⟨r,x,y,rfl⟩|rfl
 ·
  go_enter func179,ntmps179
  go_wp2_with fail
  change Code.wp _ _ _ _ (WR p q h k i l w)
  go_region_held2 (λj=>Below (WR p q h k i l w).heap.size (WR p q h k i l w) j/\
   j.cell? (Ad w.heap.size 0)=some (.bool p)/\j.cell? (Ad w.heap.size 1)=some (.string h)/\j.cell? (Ad w.heap.size 2)=some (.string k)/\
   j.cell? (Ad (w.heap.size+1) 0)=some (.bool q)/\j.cell? (Ad (w.heap.size+1) 1)=some (.string i)/\j.cell? (Ad (w.heap.size+1) 2)=some (.string l))
   (first|exact DL (by assumption)|exact DL blr.drew)
   (first
   |(go_at_call_of 166 (Value.string h);refine(c1.o _ (Af g.o (by assumption))).mono ?_;rintro e S⟨rfl,z⟩;have G:=Af (by assumption) z)
   |(go_at_call_of 166 (Value.string i);refine(c2.o _ (Af g.o (by assumption))).mono ?_;rintro e T⟨rfl,A⟩;have H:=Af (by assumption) A)
   |(go_at_call 165;refine(AZ _ _).mono ?_;rintro e w'⟨rfl,rfl⟩)
   |(go_at_call 164;refine(c3.o _ (Af g.o (by assumption))).mono ?_;rintro e U⟨rfl,B⟩;have m:=Af (by assumption) B))
  rename_i F;obtain⟨_,I,J,K,L,N,O⟩:=F
  go_wp2_with fail
  refine(c4.o _ (Af g.o m)).mono ?_;rintro e W⟨rfl,C⟩;have o:=Af m C
  go_wp2_with fail
  refine(AZ _ _).mono ?_;rintro e w'⟨rfl,rfl⟩
  go_wp2_with fail
  refine(c5.o _ (Af g.o o)).mono ?_;rintro e X⟨rfl,D⟩;have u:=Af o D;obtain⟨R,k1,k2,Y,Z,f2⟩:=EJ u;obtain⟨s0,s1,s2⟩:=set3 (a':=.bool r) (b':=.string x) (c':=.string y) R k1 k2
  go_wp2_with fail
  refine bodyPost_ret (DY rfl _ _ (w.heap.size+1+1) r x y rfl s0 s1 s2) rfl ⟨rfl,(((Af g.o u).setCell ?_ _).setCell ?_ _).setCell ?_ _⟩<;>(show w.heap.size<=w.heap.size+1+1;omega)
 unfold PT at c5 ⊢
 go_enter func179,ntmps179
 go_wp2_with fail
 change Code.wp _ _ _ _ (WR p q h k i l w)
 go_region_held2 (λj=>Below (WR p q h k i l w).heap.size (WR p q h k i l w) j/\
  j.cell? (Ad w.heap.size 0)=some (.bool p)/\j.cell? (Ad w.heap.size 1)=some (.string h)/\j.cell? (Ad w.heap.size 2)=some (.string k)/\
  j.cell? (Ad (w.heap.size+1) 0)=some (.bool q)/\j.cell? (Ad (w.heap.size+1) 1)=some (.string i)/\j.cell? (Ad (w.heap.size+1) 2)=some (.string l))
  (first|exact DL (by assumption)|exact DL blr.drew)
  (first
  |(go_at_call_of 166 (Value.string h);refine(c1.o _ (Af g.o (by assumption))).mono ?_;rintro e S⟨rfl,z⟩;have G:=Af (by assumption) z)
  |(go_at_call_of 166 (Value.string i);refine(c2.o _ (Af g.o (by assumption))).mono ?_;rintro e T⟨rfl,A⟩;have H:=Af (by assumption) A)
  |(go_at_call 165;refine(AZ _ _).mono ?_;rintro e w'⟨rfl,rfl⟩)
  |(go_at_call 164;refine(c3.o _ (Af g.o (by assumption))).mono ?_;rintro e U⟨rfl,B⟩;have m:=Af (by assumption) B))
 rename_i F;obtain⟨_,I,J,K,L,N,O⟩:=F
 go_wp2_with fail
 refine(c4.o _ (Af g.o m)).mono ?_;rintro e W⟨rfl,C⟩;have o:=Af m C
 go_wp2_with fail
 refine(AZ _ _).mono ?_;rintro e w'⟨rfl,rfl⟩
 go_wp2_with fail
 refine(c5.o _ (Af g.o o)).mono ?_;rintro e X⟨rfl,D⟩;have u:=Af o D
 go_wp2_with fail
 exact⟨rfl,rfl,Af g.o u⟩
def Xz(p q:Bool)(h k i l a b c d:ByteArray)(s:Bool)(E:Ending)(w:World)(P:(∃r x y,E=.returned (.agg #[.bool r,.string x,.string y]))\/E=PT)
  (c1:∀wx,Below w.heap.size w wx->Calls prog 166 #[.string h,.string l] wx (StrZ a wx))
  (c2:∀wx,Below w.heap.size w wx->Calls prog 166 #[.string i,.string k] wx (StrZ b wx))
  (c3:∀wx,Below w.heap.size w wx->Calls prog 164 #[.bool p,.string a,.bool (!q),.string b] wx λe w'=>e=.returned (.tuple #[.bool s,.string c])/\Below wx.heap.size wx w')
  (c4:∀wx,Below w.heap.size w wx->Calls prog 166 #[.string k,.string l] wx (StrZ d wx))
  (c5:∀wx,Below w.heap.size w wx->Calls prog 180 #[.bool s,.string c,.string d] wx λe w'=>e=E/\Below wx.heap.size wx w') :
  Calls prog 213 #[nvS p h k,nvS q i l] w λe w'=>e=E/\Below w.heap.size w w':=by
 replace c1:=qh c1;replace c2:=qh c2;replace c3:=qh c3;replace c4:=qh c4;replace c5:=qh c5;have g:=qh<|GJ p q h k i l w;have Q:Below (WR p q h k i l w).heap.size (WR p q h k i l w) (WR p q h k i l w).drew:=blr.drew;unfold nvS
 rcases P with⟨r,x,y,rfl⟩|rfl
 ·
  go_enter func213,ntmps213
  go_wp2_with fail
  change Code.wp _ _ _ _ (WR p q h k i l w)
  go_region_held2 (λj=>Below (WR p q h k i l w).heap.size (WR p q h k i l w) j/\
   j.cell? (Ad w.heap.size 0)=some (.bool p)/\j.cell? (Ad w.heap.size 1)=some (.string h)/\j.cell? (Ad w.heap.size 2)=some (.string k)/\
   j.cell? (Ad (w.heap.size+1) 0)=some (.bool q)/\j.cell? (Ad (w.heap.size+1) 1)=some (.string i)/\j.cell? (Ad (w.heap.size+1) 2)=some (.string l))
   (first|exact DL (by assumption)|exact DL blr.drew)
   (first
   |(go_at_call_of 166 (Value.string h);refine(c1.o _ (Af g.o (by assumption))).mono ?_;rintro e S⟨rfl,z⟩;have G:=Af (by assumption) z)
   |(go_at_call_of 166 (Value.string i);refine(c2.o _ (Af g.o (by assumption))).mono ?_;rintro e T⟨rfl,A⟩;have H:=Af (by assumption) A)
   |(go_at_call 165;refine(AZ _ _).mono ?_;rintro e w'⟨rfl,rfl⟩)
   |(go_at_call 164;refine(c3.o _ (Af g.o (by assumption))).mono ?_;rintro e U⟨rfl,B⟩;have m:=Af (by assumption) B))
  rename_i F;obtain⟨_,I,J,K,L,N,O⟩:=F
  go_wp2_with fail
  refine(c4.o _ (Af g.o m)).mono ?_;rintro e W⟨rfl,C⟩;have o:=Af m C
  go_wp2_with fail
  refine(AZ _ _).mono ?_;rintro e w'⟨rfl,rfl⟩
  go_wp2_with fail
  refine(c5.o _ (Af g.o o)).mono ?_;rintro e X⟨rfl,D⟩;have u:=Af o D;obtain⟨R,k1,k2,Y,Z,f2⟩:=EJ u;obtain⟨s0,s1,s2⟩:=set3 (a':=.bool r) (b':=.string x) (c':=.string y) R k1 k2
  go_wp2_with fail
  refine bodyPost_ret (DY rfl _ _ (w.heap.size+1+1) r x y rfl s0 s1 s2) rfl ⟨rfl,(((Af g.o u).setCell ?_ _).setCell ?_ _).setCell ?_ _⟩<;>(show w.heap.size<=w.heap.size+1+1;omega)
 unfold PT at c5 ⊢
 go_enter func213,ntmps213
 go_wp2_with fail
 change Code.wp _ _ _ _ (WR p q h k i l w)
 go_region_held2 (λj=>Below (WR p q h k i l w).heap.size (WR p q h k i l w) j/\
  j.cell? (Ad w.heap.size 0)=some (.bool p)/\j.cell? (Ad w.heap.size 1)=some (.string h)/\j.cell? (Ad w.heap.size 2)=some (.string k)/\
  j.cell? (Ad (w.heap.size+1) 0)=some (.bool q)/\j.cell? (Ad (w.heap.size+1) 1)=some (.string i)/\j.cell? (Ad (w.heap.size+1) 2)=some (.string l))
  (first|exact DL (by assumption)|exact DL blr.drew)
  (first
  |(go_at_call_of 166 (Value.string h);refine(c1.o _ (Af g.o (by assumption))).mono ?_;rintro e S⟨rfl,z⟩;have G:=Af (by assumption) z)
  |(go_at_call_of 166 (Value.string i);refine(c2.o _ (Af g.o (by assumption))).mono ?_;rintro e T⟨rfl,A⟩;have H:=Af (by assumption) A)
  |(go_at_call 165;refine(AZ _ _).mono ?_;rintro e w'⟨rfl,rfl⟩)
  |(go_at_call 164;refine(c3.o _ (Af g.o (by assumption))).mono ?_;rintro e U⟨rfl,B⟩;have m:=Af (by assumption) B))
 rename_i F;obtain⟨_,I,J,K,L,N,O⟩:=F
 go_wp2_with fail
 refine(c4.o _ (Af g.o m)).mono ?_;rintro e W⟨rfl,C⟩;have o:=Af m C
 go_wp2_with fail
 refine(AZ _ _).mono ?_;rintro e w'⟨rfl,rfl⟩
 go_wp2_with fail
 refine(c5.o _ (Af g.o o)).mono ?_;rintro e X⟨rfl,D⟩;have u:=Af o D
 go_wp2_with fail
 exact⟨rfl,rfl,Af g.o u⟩
def UK(p q:Bool)(h g j i a b:ByteArray)(E:Ending)(w:World)(F:(∃r x y,E=.returned (.agg #[.bool r,.string x,.string y]))\/E=PT)
  (c1:∀wx,Below w.heap.size w wx->Calls prog 166 #[.string h,.string j] wx (StrZ a wx))
  (c2:∀wx,Below w.heap.size w wx->Calls prog 166 #[.string g,.string i] wx (StrZ b wx))
  (c5:∀wx,Below w.heap.size w wx->Calls prog 180 #[.bool (p != q),.string a,.string b] wx λe w'=>e=E/\Below wx.heap.size wx w') :
  Calls prog 181 #[nvS p h g,nvS q j i] w λe w'=>e=E/\Below w.heap.size w w':=by
 replace c1:=qh c1;replace c2:=qh c2;replace c5:=qh c5;have c:=qh<|GJ p q h g j i w;have G:Below (WR p q h g j i w).heap.size (WR p q h g j i w) (WR p q h g j i w).drew:=blr.drew;unfold nvS
 rcases F with⟨r,x,y,rfl⟩|rfl
 ·
  go_enter func181,ntmps181
  go_wp2_with fail
  change Code.wp _ _ _ _ (WR p q h g j i w)
  go_region_held2 (λd=>Below (w.heap.size+1+1) (WR p q h g j i w) d/\
   d.cell? (Ad w.heap.size 0)=some (.bool p)/\d.cell? (Ad w.heap.size 1)=some (.string h)/\d.cell? (Ad w.heap.size 2)=some (.string g)/\
   d.cell? (Ad (w.heap.size+1) 0)=some (.bool q)/\d.cell? (Ad (w.heap.size+1) 1)=some (.string j)/\d.cell? (Ad (w.heap.size+1) 2)=some (.string i))
   (first|exact Cv (Cw (by assumption))|exact Cv (Cw blr.drew)|exact Cv ((((Cw (by assumption)).setCell nlr _).setCell nlr _).setCell nlr _))
   (first
   |(go_at_call_of 166 (Value.string h);refine(c1.o _ (Af c.o (by assumption))).mono ?_;rintro e H⟨rfl,m⟩;have u:=Af (by assumption) m)
   |(go_at_call_of 166 (Value.string g);refine(c2.o _ (Af c.o (by assumption))).mono ?_;rintro e I⟨rfl,o⟩;have z:=Af (by assumption) o)
   |(go_at_call 165;refine(AZ _ _).mono ?_;rintro e w'⟨rfl,rfl⟩)
   |(go_at_call 180;refine(c5.o _ (Af c.o (by assumption))).mono ?_;rintro e J⟨rfl,s⟩;have k:=Af (by assumption) s;obtain⟨A,k1,k2,B,C,D⟩:=EJ k;obtain⟨s0,s1,s2⟩:=set3 (a':=.bool r) (b':=.string x) (c':=.string y) A k1 k2))
  go_wp2_with fail
  refine bodyPost_ret (DY rfl _ _ (w.heap.size+1+1) r x y rfl s0 s1 s2) rfl ⟨rfl,(((Af c.o k).setCell ?_ _).setCell ?_ _).setCell ?_ _⟩<;>(show w.heap.size<=w.heap.size+1+1;omega)
 unfold PT at c5 ⊢
 go_enter func181,ntmps181
 go_wp2_with fail
 change Code.wp _ _ _ _ (WR p q h g j i w)
 go_region_held2 (λd=>Below (w.heap.size+1+1) (WR p q h g j i w) d/\
  d.cell? (Ad w.heap.size 0)=some (.bool p)/\d.cell? (Ad w.heap.size 1)=some (.string h)/\d.cell? (Ad w.heap.size 2)=some (.string g)/\
  d.cell? (Ad (w.heap.size+1) 0)=some (.bool q)/\d.cell? (Ad (w.heap.size+1) 1)=some (.string j)/\d.cell? (Ad (w.heap.size+1) 2)=some (.string i))
  (first|exact Cv (Cw (by assumption))|exact Cv (Cw blr.drew)|exact Cv ((((Cw (by assumption)).setCell nlr _).setCell nlr _).setCell nlr _))
  (first
  |(go_at_call_of 166 (Value.string h);refine(c1.o _ (Af c.o (by assumption))).mono ?_;rintro e H⟨rfl,m⟩;have u:=Af (by assumption) m)
  |(go_at_call_of 166 (Value.string g);refine(c2.o _ (Af c.o (by assumption))).mono ?_;rintro e I⟨rfl,o⟩;have z:=Af (by assumption) o)
  |(go_at_call 165;refine(AZ _ _).mono ?_;rintro e w'⟨rfl,rfl⟩)
  |(go_at_call 180;refine(c5.o _ (Af c.o (by assumption))).mono ?_;rintro e J⟨rfl,s⟩;have k:=Af (by assumption) s;obtain⟨A,k1,k2,B,C,D⟩:=EJ k;refine MC (by assumption) 26 (.agg #[.bool false,.string ⟨#[]⟩,.string ⟨#[]⟩]) ⟨rfl,rfl,Af c.o k⟩ (λl=>?_)))
 exact l.o.elim
def SH(p q:Bool)(h g j i a b:ByteArray)(E:Ending)(w:World)(F:(∃r x y,E=.returned (.agg #[.bool r,.string x,.string y]))\/E=PT)
  (c1:∀wx,Below w.heap.size w wx->Calls prog 166 #[.string h,.string i] wx (StrZ a wx))
  (c2:∀wx,Below w.heap.size w wx->Calls prog 166 #[.string g,.string j] wx (StrZ b wx))
  (c5:∀wx,Below w.heap.size w wx->Calls prog 180 #[.bool (p != q),.string a,.string b] wx λe w'=>e=E/\Below wx.heap.size wx w') :
  Calls prog 214 #[nvS p h g,nvS q j i] w λe w'=>e=E/\Below w.heap.size w w':=by
 replace c1:=qh c1;replace c2:=qh c2;replace c5:=qh c5;have c:=qh<|GJ p q h g j i w;have G:Below (WR p q h g j i w).heap.size (WR p q h g j i w) (WR p q h g j i w).drew:=blr.drew;unfold nvS
 rcases F with⟨r,x,y,rfl⟩|rfl
 ·
  go_enter func214,ntmps214
  go_wp2_with fail
  change Code.wp _ _ _ _ (WR p q h g j i w)
  go_region_held2 (λd=>Below (w.heap.size+1+1) (WR p q h g j i w) d/\
   d.cell? (Ad w.heap.size 0)=some (.bool p)/\d.cell? (Ad w.heap.size 1)=some (.string h)/\d.cell? (Ad w.heap.size 2)=some (.string g)/\
   d.cell? (Ad (w.heap.size+1) 0)=some (.bool q)/\d.cell? (Ad (w.heap.size+1) 1)=some (.string j)/\d.cell? (Ad (w.heap.size+1) 2)=some (.string i))
   (first|exact Cv (Cw (by assumption))|exact Cv (Cw blr.drew)|exact Cv ((((Cw (by assumption)).setCell nlr _).setCell nlr _).setCell nlr _))
   (first
   |(go_at_call_of 166 (Value.string h);refine(c1.o _ (Af c.o (by assumption))).mono ?_;rintro e H⟨rfl,m⟩;have u:=Af (by assumption) m)
   |(go_at_call_of 166 (Value.string g);refine(c2.o _ (Af c.o (by assumption))).mono ?_;rintro e I⟨rfl,o⟩;have z:=Af (by assumption) o)
   |(go_at_call 165;refine(AZ _ _).mono ?_;rintro e w'⟨rfl,rfl⟩)
   |(go_at_call 180;refine(c5.o _ (Af c.o (by assumption))).mono ?_;rintro e J⟨rfl,s⟩;have k:=Af (by assumption) s;obtain⟨A,k1,k2,B,C,D⟩:=EJ k;obtain⟨s0,s1,s2⟩:=set3 (a':=.bool r) (b':=.string x) (c':=.string y) A k1 k2))
  go_wp2_with fail
  refine bodyPost_ret (DY rfl _ _ (w.heap.size+1+1) r x y rfl s0 s1 s2) rfl ⟨rfl,(((Af c.o k).setCell ?_ _).setCell ?_ _).setCell ?_ _⟩<;>(show w.heap.size<=w.heap.size+1+1;omega)
 unfold PT at c5 ⊢
 go_enter func214,ntmps214
 go_wp2_with fail
 change Code.wp _ _ _ _ (WR p q h g j i w)
 go_region_held2 (λd=>Below (w.heap.size+1+1) (WR p q h g j i w) d/\
  d.cell? (Ad w.heap.size 0)=some (.bool p)/\d.cell? (Ad w.heap.size 1)=some (.string h)/\d.cell? (Ad w.heap.size 2)=some (.string g)/\
  d.cell? (Ad (w.heap.size+1) 0)=some (.bool q)/\d.cell? (Ad (w.heap.size+1) 1)=some (.string j)/\d.cell? (Ad (w.heap.size+1) 2)=some (.string i))
  (first|exact Cv (Cw (by assumption))|exact Cv (Cw blr.drew)|exact Cv ((((Cw (by assumption)).setCell nlr _).setCell nlr _).setCell nlr _))
  (first
  |(go_at_call_of 166 (Value.string h);refine(c1.o _ (Af c.o (by assumption))).mono ?_;rintro e H⟨rfl,m⟩;have u:=Af (by assumption) m)
  |(go_at_call_of 166 (Value.string g);refine(c2.o _ (Af c.o (by assumption))).mono ?_;rintro e I⟨rfl,o⟩;have z:=Af (by assumption) o)
  |(go_at_call 165;refine(AZ _ _).mono ?_;rintro e w'⟨rfl,rfl⟩)
  |(go_at_call 180;refine(c5.o _ (Af c.o (by assumption))).mono ?_;rintro e J⟨rfl,s⟩;have k:=Af (by assumption) s;obtain⟨A,k1,k2,B,C,D⟩:=EJ k;refine MC (by assumption) 26 (.agg #[.bool false,.string ⟨#[]⟩,.string ⟨#[]⟩]) ⟨rfl,rfl,Af c.o k⟩ (λl=>?_)))
 exact l.o.elim
end
end Go.Proofs.YtpldocnhbdlgfaaGreatDoor
