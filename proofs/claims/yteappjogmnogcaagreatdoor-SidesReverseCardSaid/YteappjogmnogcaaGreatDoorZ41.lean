/- Parts. -/
import Derived.Test.YteappjogmnogcaaGreatDoorZ39
namespace Go.Proofs.YteappjogmnogcaaGreatDoor
set_option maxRecDepth 100000
set_option linter.all false
set_option maxHeartbeats 16000000
open Go Tryz
section
open Go.RowKit Go.Deep
variable{B n:Nat}{y:Nat->Int}{w:World}{v:Value}
def ivs(n:Nat)(y:Nat->Int):List Value:=(List.range n).map λi=>Value.int .i64 (y i)
def Vy{i:Nat}(h:i<n):(ivs n y)[i]?=some (.int .i64 (y i)):=by simp[ivs,h]
theorem NJ(h:w.ownsRow B 3 1 v n (ivs n y)):Si none w v n y:=by
 rcases h.2 with⟨c,k⟩|⟨g,d,j,c,u,o,l,m,p,s⟩
 ·exact .inl ⟨k,none,0,by rw[c],Nat.zero_le _⟩
 refine .inr ⟨g,0,d,c,⟨lbk o,by simp⟩,l,m,λi hi=>?_⟩;rw[c]at h;rw[Nat.zero_add];exact Dg h (Vy hi)
def Vu:(prog.info? 3).map (λi=>(i.zero,i.size,i.bytes))=some (some (.int .i64 0),1,8):=by kernel_rfl
theorem Vz(n:Nat)(y:Nat->Int):ivs (n+1) y=ivs n y++[.int .i64 (y n)]:=by unfold ivs;rw[List.range_succ,List.map_append];rfl
def NewI(n:Nat)(y:Nat->Int)(w:World)(r:Ending)(w':World):Prop:=Below w.heap.size w w'/\∃v,r=.returned v/\w'.ownsRow w.heap.size 3 1 v n (ivs n y)
def Xc{g wr:World}{xs:List Value}{o:Obj}(hb:Below B w wr)(l:B<=wr.heap.size)(d:wr.ownsRow B 3 1 v n xs)(i:(wr.alloc o).grownBy g v.ownBlock):Below B w g:=by
 refine hb.trans ?_;have h:wr.grownBy (wr.alloc o) v.ownBlock:=World.grownBy_alloc wr o _;have c:=AR h i;exact⟨c.os,c.tape,c.output,c.size,λq m=>c.block q (by omega) (λe=>by
  obtain⟨j,k⟩:=World.ownsRow.lt d q e.symm;omega)⟩
end
end Go.Proofs.YteappjogmnogcaaGreatDoor
