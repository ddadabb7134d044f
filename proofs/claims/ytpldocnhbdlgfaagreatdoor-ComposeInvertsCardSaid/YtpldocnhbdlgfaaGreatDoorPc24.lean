/- Parts. -/
import Derived.Test.YtpldocnhbdlgfaaGreatDoorPc22
import Derived.Laws.CopyOwn
import Derived.Test.YtpldocnhbdlgfaaGreatDoorPc21
namespace Go.Proofs.YtpldocnhbdlgfaaGreatDoor
set_option maxRecDepth 100000
set_option linter.all false
set_option maxHeartbeats 16000000
open Go Tryz
section
open Go.RowKit Go.Deep
variable{b:Nat}{w:World}{kd st:Int}{sv:Value}{d:ByteArray}{t:TypeId}
def Box4(w:World)(b:Nat)(kd st:Int)(ld:ByteArray)(sv:Value):Prop:=w.heap[b]?=some (.cells #[.int .i64 kd,.int .i64 st,.string ld,sv] 25 (0,0))
def AE(w:World)(b:Nat)(c d g i:Value){j k l m:Value}(h:w.heap[b]?=some (.cells #[j,k,l,m] t (0,0))):(w.setCells b 0 [c,d,g,i]).heap[b]?=some (.cells #[c,d,g,i] t (0,0)):=by
 simp[World.setCells,World.setCell,Array.getElem?_modify,h]
theorem Ax{B:Nat}{a:World}(h:Below B a w)(hb:B<=b)(c d g i:Value):Below B a (w.setCells b 0 [c,d,g,i]) :=
 (((h.setCell (p:=(Ad b 0)) hb c).setCell (p:=(Ad b (0+1))) hb d).setCell (p:=(Ad b (0+1+1))) hb g).setCell (p:=(Ad b (0+1+1+1))) hb i
def YI{c d g i:Value}(h:w.heap[b]?=some (.cells #[c,d,g,i] t (0,0))):w.there b 0 4:=by
 intro j k;have:j=0\/j=1\/j=2\/j=3:=by omega
 rcases this with rfl|rfl|rfl|rfl<;>simp[World.cell?,World.frozen?,h]
theorem Box4.range(h:Box4 w b kd st d sv):w.rangeAt b 0 [.int .i64 kd,.int .i64 st,.string d,sv]:=by
 intro j v c;unfold Box4 at h;have g:j<4:=by have:=(List.getElem?_eq_some_iff.1 c).1;simpa using this
 have:j=0\/j=1\/j=2\/j=3:=by omega
 rcases this with rfl|rfl|rfl|rfl<;>(simp at c;subst c;simp[World.cell?,h])
def Ou{c:ByteArray}(h:Box4 w b kd st c sv):(loadVar 25 (Ad b 0)).run prog w=.ok (.agg #[.int .i64 kd,.int .i64 st,.string c,sv]) w :=
 run_loadVar_mid (P:=prog) w b 0 25 [.int .i64 kd,.int .i64 st,.string c,sv] _ h.range underlying25 rfl (by kernel_rfl)
def Ht{fn:Func}{p:Tmp}(h:fn.results=#[.cell p 25])(c:Array Value)(g:c.getD p undef=.pointer (some (Ad b 0)))(hb:Box4 w b kd st d sv):
  (results fn c).run prog w=.ok (.agg #[.int .i64 kd,.int .i64 st,.string d,sv]) w:=by
 rw[Ke h,g];show ((loadVar 25 (Ad b 0)).run prog w)=_;exact Ou hb
def AJ{fn:Func}{p u:Tmp}(h:fn.results=#[.cell p 25,.tmp u])(c:Array Value){v:Value}(g:c.getD p undef=.pointer (some (Ad b 0)))(i:c.getD u undef=v)(hb:Box4 w b kd st d sv):
  (results fn c).run prog w=.ok (.tuple #[.agg #[.int .i64 kd,.int .i64 st,.string d,sv],v]) w:=by
 rw[results_cell_tmp h,g,i];show ((loadVar 25 (Ad b 0)).run prog w).andThen _=_;rw[Ou hb];rfl
def Ot{P:Program}(w:World)(dT H I c:TypeId)(s n:Nat)(g h:Nat)(u:Option Addr)(m:Nat)(cur:Array Value)(t:TypeId)(cs:List Value)
  (p:P.underlying dT=some (.slice c)) (A:(P.info? c).map (·.size)=some s) (F:w.heap[g]?=some (.cells cur t (0,0))) (E:cs.length=n*s) (z:cur.size=n*s)
  (l:0<n->∃a,u=some a/\∀j v,cs[j]?=some v->w.cell? (a.add j)=some v) (C:∀v ∈ cs,v.oneCell'=true) :
  (Builtin.copy_ #[dT,H] I #[.slice (some (Ad g 0)) n h,.slice u n m]).run P w=.ok (goInt n) (w.setRow g cs.toArray):=by
 have d:=run_storeCells_at P g 0 t cs 0 cur w F (by omega) C;have G:(cur.toList.take (0+0)++cs++cur.toList.drop (0+0+cs.length)).toArray=cs.toArray:=by
  rw[List.drop_eq_nil_of_le (by simp;omega)];simp
 rw[G]at d;cases k:P.info? c with
 |none=>simp[k]at A
 |some i =>
  have hi:i.size=s:=by simpa [k] using A
  by_cases B:n=0
  ·subst B;obtain rfl:cs=[]:=List.eq_nil_of_length_eq_zero (by omega);have o:∀(x:Addr),(loadCells x 0).run P w=.ok #[] w:=λx=>by simpa using run_loadCells_list (P:=P) w x [] (by simp)
   cases u with
   |none=>simp[Builtin.copy_,run_underlying p,Builtin.lenOf,Builtin.firstCells,sizeOf,typeInfo,k,d]
   |some a=>simp[Builtin.copy_,run_underlying p,Builtin.lenOf,Builtin.firstCells,sizeOf,typeInfo,k,o,d]
  obtain⟨a,rfl,D⟩:=l (by omega);have o:=run_loadCells_list (P:=P) w a cs D;rw[E]at o;simp[Builtin.copy_,run_underlying p,Builtin.lenOf,Builtin.firstCells,sizeOf,typeInfo,k,hi,o,d]
theorem Ov{P:Program}(t e:TypeId)(z:Value)(s c:Nat)(u:P.underlying t=some (.slice e))(d:(P.info? e).map (λi=>(i.zero,i.size,i.bytes))=some (some z,s,c))
  (m kc:IntKind) (n:Nat) (j:c*n<=281474976710656) (o:n<=9223372036854775807) (w:World) :
  (Instr.makeSlice t (.int m (n:Int)) (.int kc (n:Int))).run P w=.ok (.slice (some (Ad w.heap.size 0)) n n) (w.alloc (.cells (madeCells z.cells (n*s)) e)):=by
 obtain⟨i,hi,g⟩:=Option.map_eq_some_iff.1 d;simp only[Prod.mk.injEq]at g;obtain⟨A,p,hb⟩:=g;have k:(i.bytes:Int)*(n:Int)<=281474976710656:=by
  have h:((i.bytes*n:Nat):Int)<=281474976710656:=by rw[hb];omega
  rwa [Int.natCast_mul]at h
 have l:=run_make (P:=P) w t e i z u hi A m kc n n (by omega) (Int.le_refl _) k (by omega);simp only[Int.toNat_natCast,p]at l;exact l
def AP:Value:=.agg #[.int .i64 0,.int .i64 0,.string ⟨#[]⟩,.slice none 0 0]
theorem cells4{w:World}{rb:Nat}{c v1 d g:Value}{t:TypeId}(h:w.heap[rb]?=some (.cells #[c,v1,d,g] t (0,0))):(w.cell? (Ad rb 0)=some c/\w.cell? (Ad rb 1)=some v1/\w.cell? (Ad rb 2)=some d/\w.cell? (Ad rb 3)=some g)/\∀j,w.frozen? (Ad rb j)=false :=
 ⟨⟨by simp[World.cell?,h],by simp[World.cell?,h],by simp[World.cell?,h],by simp[World.cell?,h]⟩,λj=>by simp[World.frozen?,h]⟩
def Fc:(prog.info? 63).map (λi=>(i.zero,i.size,i.bytes))=some (some (.agg #[.string ⟨#[]⟩,.slice none 0 0]),2,40):=by kernel_rfl
def FH:(prog.info? 59).map (λi=>(i.zero,i.size,i.bytes))=some (some (.agg #[.int .i64 0,.int .i64 0,.string ⟨#[]⟩,.int .i64 0]),4,40):=by kernel_rfl
def MkE(V:Prop)(D:MD)(e:Nat)(w:World)(r:Ending)(w':World):Prop :=
 Below w.heap.size w w'/\((V/\∃sv R,r=.returned (.tuple #[.agg #[.int .i64 D.kind,.int .i64 D.start,.string D.lead,sv],.int .i64 0])/\OwM w' w.heap.size sv D R)\/(¬V/\r=.returned (.tuple #[AP,.int .i64 (e:Int)])))
variable{x:Nat}
def MsS(w:World)(v:Value)(n:Nat)(Ds:Nat->MD):Prop :=
 ∃(a:Option Addr) (cap b off:Nat) (F:Nat->Value),v=.slice a n cap/\n<=cap/\cap<=maxLen/\(0<n->a=some (Ad b off))/\∀i,i<n->b<w.heap.size/\w.cell? (Ad b (off+i*4))=some (.int .i64 (Ds i).kind)/\w.cell? (Ad b (off+i*4+1))=some (.int .i64 (Ds i).start)/\
  w.cell? (Ad b (off+i*4+2))=some (.string (Ds i).lead)/\w.cell? (Ad b (off+i*4+3))=some (F i)/\StS none w (F i) (Ds i)
def WsS(w:World)(v:Value)(m:Nat)(na:Nat->Nat):Prop :=
 ∃(a:Option Addr) (cap b off:Nat) (A:Nat->Option Addr) (C:Nat->Nat),v=.slice a m cap/\m<=cap/\cap<=maxLen/\(0<m->a=some (Ad b off))/\∀i,i<m->b<w.heap.size/\w.cell? (Ad b (off+i))=some (.slice (A i) (na i) (C i))
def sM(f:Nat->Nat):Nat->Nat
 |0=>0
 |m+1=>sM f m+f m
theorem Oy{f:Nat->Nat}{B:Nat}:∀m,(∀i,i<m->f i<=B)->sM f m<=m*B
 |0,_=>Nat.zero_le _
 |m+1,h=>by
  have h1:=Oy m (λi hi=>h i (by omega));have h2:=h m (by omega);show sM f m+f m<=_;rw[Nat.succ_mul];omega
theorem Ox{f:Nat->Nat}:∀m i,i<m->f i<=sM f m
 |m+1,i,h=>by
  show _<=sM f m+f m;by_cases e:i=m
  ·rw[e];omega
  have:=Ox m i (by omega:i<m) (f:=f);omega
def pk3{α:Type}(a b c:α)(i:Nat):α:=if i=0 then a else if i=1 then b else c
def MsS.two{A B:MD}{d c:Value}(h:w.heap[x]?=some (.cells #[.int .i64 A.kind,.int .i64 A.start,.string A.lead,d,.int .i64 B.kind,.int .i64 B.start,.string B.lead,c] t (0,0)))(g:StS none w d A)(j:StS none w c B):MsS w (.slice (some (Ad x 0)) 2 2) 2 (pk3 A B B) :=
 ⟨_,2,x,0,pk3 d c c,rfl,nlr,by unfold maxLen;omega,λ_=>rfl,λi hi=>by
  rcases (by omega:i=0\/i=1) with rfl|rfl
  ·exact⟨lbk h,cellOf h 0 rfl,cellOf h 1 rfl,cellOf h 2 rfl,cellOf h 3 rfl,g⟩
  exact⟨lbk h,cellOf h 4 rfl,cellOf h 5 rfl,cellOf h 6 rfl,cellOf h 7 rfl,j⟩⟩
def WsS.two{a a':Option Addr}{n c d c':Nat}(h:w.heap[x]?=some (.cells #[.slice a n c,.slice a' d c'] t (0,0))):WsS w (.slice (some (Ad x 0)) 2 2) 2 (pk3 n d d) :=
 ⟨_,2,x,0,pk3 a a' a',pk3 c c' c',rfl,nlr,by unfold maxLen;omega,λ_=>rfl,λi hi=>by
  rcases (by omega:i=0\/i=1) with rfl|rfl
  ·exact⟨lbk h,cellOf h 0 rfl⟩
  exact⟨lbk h,cellOf h 1 rfl⟩⟩
end
end Go.Proofs.YtpldocnhbdlgfaaGreatDoor
