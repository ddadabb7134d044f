/- Parts. -/
import Derived.Test.YteappjogmnogcaaGreatDoorZ39
namespace Go.Proofs.YteappjogmnogcaaGreatDoor
set_option maxRecDepth 100000
set_option linter.all false
set_option maxHeartbeats 16000000
open Go Tryz
section
open Go.RowKit Go.Deep Go.ChangeShapes Go.WideShapes Go.Joins
def SB{H:Type}{enc:TypeId × Value->H}{W:World}{p:Bool}{o:Nat}{v:Value}{x:DataW H × List MemPlace}(h:DataW.trod enc prog W 0 (λ_=>true) p o 45 [v]=some x):
  ∃(n:Nat) (Z po:Nat->Int),PrS none W v n Z po:=by
 rcases open_slice underlying45 h with⟨l,_⟩|⟨a,len,L,m,n',D,Pl,l,_,U,F,s,Y,X⟩
 ·simp only[List.cons.injEq,and_true]at l;exact⟨0,λ_=>0,λ_=>0,.inl ⟨rfl,none,0,l,Nat.zero_le _⟩⟩
 simp only[List.cons.injEq,and_true]at l;simp only[if_true]at s;subst s;have c2:prog.cellsOf 50=2:=by kernel_rfl
 have N:prog.cellsOf 3=1:=by kernel_rfl
 classical
 have d:∀i,∃t:Int × Int,i<len->W.cell? (a.add (i*2))=some (.int .i64 t.1)/\W.cell? (a.add (i*2+1))=some (.int .i64 t.2):=λi=>by
  by_cases hi:i<len
  ·obtain⟨u,C,R⟩:=X i (by omega);rw[c2]at C;obtain⟨_,g,c⟩:=World.cells?_some C;obtain⟨y0,y1,k,hy,_,A,B⟩:=trod_struct2 underlying50 R
   match u,g with
   | [v0,v1],_ =>
    simp only[N,List.drop_zero,List.drop_succ_cons,List.take_succ_cons,List.take_zero]at A B;obtain⟨z0,O,_⟩:=DataW.trod_int underlying3 A;obtain⟨K,P,_⟩:=DataW.trod_int underlying3 B;obtain rfl:v0=.int .i64 z0:=by simpa using O
    obtain rfl:v1=.int .i64 K:=by simpa using P
    have I:=c 0 (by omega);have J:=c 1 (by omega);rw[add_add]at I J;exact⟨(z0,K),λ_=>⟨by simpa using I,by simpa using J⟩⟩
  exact⟨(0,0),λh=>absurd h hi⟩
 obtain⟨T,E⟩:∃T:Nat->Int × Int,∀i,i<len->W.cell? (a.add (i*2))=some (.int .i64 (T i).1)/\W.cell? (a.add (i*2+1))=some (.int .i64 (T i).2) :=
  ⟨λi=>Classical.choose (d i),λi=>Classical.choose_spec (d i)⟩
 refine⟨len,λi=>(T i).1,λi=>(T i).2,?_⟩;by_cases Q:len=0
 ·subst Q;exact .inl ⟨rfl,some a,m,l,F⟩
 have c0:=(E 0 (by omega)).1;have G:a.spot=none:=by simpa [Addr.add] using World.cell?_spot c0
 obtain⟨b,z,sp⟩:=a;simp only at G;subst G;refine .inr ⟨b,z,m,l,⟨?_,by simp⟩,U,F,λj S=>?_⟩
 ·have:=World.block_lt_of_cell? _ _ c0
  simpa [Addr.add] using this
 have h:=E j S;rw[Addr.add_lit,Addr.add_lit]at h;exact⟨h.1,h.2⟩
end
end Go.Proofs.YteappjogmnogcaaGreatDoor
