/- Parts. -/
import Derived.Test.YtpldocnhbdlgfaaGreatDoorPc17
import Derived.Test.YtpldocnhbdlgfaaGreatDoorPc18
namespace Go.Proofs.YtpldocnhbdlgfaaGreatDoor
set_option maxRecDepth 100000
set_option linter.all false
set_option maxHeartbeats 16000000
open Go Tryz
section
open Go.RowKit Go.Deep
variable{z:Option Nat}
structure Fr(C:Nat->Prop)(w w':World):Prop where
 os:w'.os=w.os
 tape:w'.tape=w.tape
 output:w'.output=w.output
 size:w.heap.size<=w'.heap.size
 block:∀q,q<w.heap.size->¬C q->w'.heap[q]?=w.heap[q]?
namespace Fr
variable{C C':Nat->Prop}{w w' w2:World}
theorem refl(C:Nat->Prop)(w:World):Fr C w w:=⟨rfl,rfl,rfl,nlr,λ_ _ _=>rfl⟩
theorem trans(h:Fr C w w')(k:Fr C w' w2):Fr C w w2:=⟨k.os.trans h.os,k.tape.trans h.tape,k.output.trans h.output,Nat.le_trans h.size k.size,λq d c=>(k.block q (by have:=h.size;omega) c).trans (h.block q d c)⟩
theorem mono(h:Fr C w w')(d:∀q,q<w.heap.size->C q->C' q):Fr C' w w':=⟨h.os,h.tape,h.output,h.size,λq c g=>h.block q c λe=>g (d q c e)⟩
theorem of_gb(h:w.grownBy w' z)(g:∀q,z=some q->C q):Fr C w w':=⟨h.os,h.tape,h.output,h.size,λq d c=>h.block q d λe=>c (g q e.symm)⟩
theorem of_below(h:Below w.heap.size w w'):Fr C w w':=of_gb (Ae h none) (by simp)
theorem alloc(w:World)(o:Obj):Fr C w (w.alloc o):=of_gb (World.grownBy_alloc w o none) (by simp)
theorem drew(h:Fr C w w'):Fr C w w'.drew:=⟨h.os,h.tape,h.output,h.size,h.block⟩
theorem set(h:Fr C w w'){p:Addr}(g:C p.block\/w.heap.size<=p.block)(v:Value):Fr C w (w'.setCell p v) :=
 ⟨h.os,h.tape,h.output,by rw[nblk_setCell];exact h.size,λq i c=>(blk_setCell_other _ _ _ _ (by
  rcases g with e|e
  ·intro d;subst d;exact c e
  omega)).trans (h.block q i c)⟩
theorem below(h:Fr C w w'){B:Nat}(d:B<=w.heap.size)(c:∀q,C q->B<=q):Below B w w':=⟨h.os,h.tape,h.output,h.size,λq g=>h.block q (by omega) λe=>by have:=c q e;omega⟩
theorem gb(h:Fr (λq=>z=some q) w w'):w.grownBy w' z:=⟨h.os,h.tape,h.output,h.size,λq c d=>h.block q c λe=>d e.symm⟩
theorem cell(h:Fr C w w'){p:Addr}{v:Value}(c:w.cell? p=some v)(g:¬C p.block):w'.cell? p=some v:=by
 have d:p.block<w.heap.size:=by
  unfold World.cell? at c;cases hb:w.heap[p.block]? with
  |none=>simp[hb]at c
  |some o=>exact(Array.getElem?_eq_some_iff.1 hb).1
 unfold World.cell? at c ⊢;rw[h.block _ d g];exact c
theorem row(h:Fr C w w'){g:Nat}{t:TypeId}{n:Nat}{F:Nat->Value}(c:w.rowIs g t n F)(d:¬C g):w'.rowIs g t n F:=c.of_block<|h.block g c.lt d
end Fr
theorem Ay{w:World}{p:Addr}{q:Nat}(h:q≠p.block)(v:Value):(w.setCell p v).heap[q]?=w.heap[q]?:=blk_setCell_other _ _ _ _ h
def Hi(k:Int)(a b:ByteArray)(e:Nat):ByteArray × Nat:=if a=⟨#[]⟩\/e≠0 then (b,e) else Ap k a b
def Ie(k:Int)(a b:ByteArray)(e:Nat):ByteArray × Nat:=if e≠0 then (a,e) else Ah k a b
abbrev WS:=(Nat->ByteArray) × Nat
def updS(l:Nat->ByteArray)(t:Nat)(s:ByteArray):Nat->ByteArray:=λj=>if j=t then s else l j
def Nq:Nat->ByteArray:=λ_=>⟨#[]⟩
def smS(s:ByteArray):Prop:=s.size<=9223372036854775807
theorem ML(v:V):smS (limV v).1:=by
 unfold smS;cases v with
 |inf=>decide
 |low=>decide
 |fin q=>exact Nat.le_trans (MJ q) (by omega)
theorem JK(k:Int)(a b:ByteArray):smS (Ap k a b).1:=by
 unfold Ap;split
 ·exact ML _
 show (str []).size<=_;decide
theorem If(k:Int)(a b:ByteArray):smS (Ah k a b).1:=by
 unfold Ah;split
 ·exact ML _
 show (str []).size<=_;decide
end
section
open Go.RowKit Go.Deep
def Scl(w:World)(cb:Nat)(D:MD)(sv star:Value)(e:Nat):Prop:=w.heap[cb]?=some (.cells #[.int .i64 D.kind,.int .i64 D.start,.string D.lead,sv,star,.int .i64 (e:Int)] 121 (0,0))
namespace Scl
variable{w w':World}{cb:Nat}{D:MD}{sv star:Value}{e:Nat}
theorem c0(h:Scl w cb D sv star e):w.cell? (Ad cb 0)=some (.int .i64 D.kind):=by unfold Scl at h;simp[World.cell?,h]
theorem c1(h:Scl w cb D sv star e):w.cell? (Ad cb 1)=some (.int .i64 D.start):=by unfold Scl at h;simp[World.cell?,h]
theorem c2(h:Scl w cb D sv star e):w.cell? (Ad cb 2)=some (.string D.lead):=by unfold Scl at h;simp[World.cell?,h]
theorem c3(h:Scl w cb D sv star e):w.cell? (Ad cb 3)=some sv:=by unfold Scl at h;simp[World.cell?,h]
theorem c4(h:Scl w cb D sv star e):w.cell? (Ad cb 4)=some star:=by unfold Scl at h;simp[World.cell?,h]
theorem c5(h:Scl w cb D sv star e):w.cell? (Ad cb 5)=some (.int .i64 (e:Int)):=by unfold Scl at h;simp[World.cell?,h]
theorem fz(h:Scl w cb D sv star e)(j:Nat):w.frozen? (Ad cb j)=false:=by unfold Scl at h;simp[World.frozen?,h]
end Scl
theorem Jb{a:ByteArray}(h:(a.toList==[])=true):a=⟨#[]⟩:=toList_eq (b:=⟨#[]⟩) (by rw[Lib.toList_data ⟨#[]⟩];exact h)
end
end Go.Proofs.YtpldocnhbdlgfaaGreatDoor
