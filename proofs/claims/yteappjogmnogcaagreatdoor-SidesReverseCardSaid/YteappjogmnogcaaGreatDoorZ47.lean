/- Parts. -/
import Derived.Test.YteappjogmnogcaaGreatDoorZ41
namespace Go.Proofs.YteappjogmnogcaaGreatDoor
set_option maxRecDepth 100000
set_option linter.all false
set_option maxHeartbeats 16000000
open Go Tryz
section
open Go.RowKit Go.Deep
variable{x:Nat->Int}
def bkX(na:Nat)(x:Nat->Int)(i:Nat):Int:=x<|na-1-i
def NH{n:Nat}(h:isWord n x=true):isWord n (bkX n x)=true:=by
 unfold isWord at h ⊢;rw[Bool.and_eq_true]at h ⊢;exact⟨h.1,GL.2 λi hi=>GL.1 h.2 (n-1-i) (by omega)⟩
def Mi{na:Nat}{Y:Value}(w:World)(X:Si none w Y na x)(hn:na<=1000):Calls prog 28 #[Y] w (NewI na (bkX na x) w):=by
 obtain⟨ax,cx,bx,ox,rfl,l,L,K,o,g⟩:=X.open;clear X L K;obtain⟨i0,s,A,B,C⟩:=Fe Vu;replace s:=qh s;replace A:=qh A;replace B:=qh B;replace C:=qh C;replace l:=qh l;replace o:=qh o;replace g:=qh g;have Q:IntKind.i64.wrap ((na:Int)-1)=(na:Int)-1:=by rw[IntKind.wrap_i64];omega
 go_enter func28,ntmps28
 go_wp2_with fail
 go_loopw [3,4] (λv3 S wr=>∃q:Nat,q<=na/\S=.int .i64 ((na:Int)-1-(q:Int))/\Below w.heap.size w wr/\wr.ownsRow w.heap.size 3 1 v3 q (ivs q (bkX na x))) (λ_ S _=>(intOf S+1).toNat)
 case atStart=>exact⟨0,Nat.zero_le _,by first|rfl|simp,blr,World.ownsRow_nil _ _ _ _⟩
 clear Q;obtain⟨q,hq,rfl,d,c⟩:=hrel;obtain⟨Z,yc,R,_,_⟩:=AC c;subst R;replace d:=qh d;replace c:=qh c;by_cases H:q<na
 ·obtain⟨m,N⟩:∃m:Nat,m=na-1-q:=⟨_,rfl⟩;have I:(na:Int)-1-(q:Int)=(m:Int):=by omega
  have O:m<na:=by omega
  have k:(m:Int)-1=(na:Int)-1-((q+1:Nat):Int):=by omega
  rw[I];replace I:=qh I;replace k:=qh k;have a2:(m:Int)<(na:Int):=by omega
  have W:(0:Int)<=(m:Int):=by omega
  have a1:IntKind.i64.wrap ((m:Int)-1)=(m:Int)-1:=by rw[IntKind.wrap_i64];omega
  obtain rfl:=l.o (by omega);have c0:=(d.o.cell (p:=(Ad bx (ox+m))) (o.o (by omega)).1).trans (g.o m O);obtain⟨E,u⟩:=exq<|x m;rw[<-u]at c0;have HZ:=qh (show E=bkX na x q by unfold bkX;rw[u,N]);clear u;replace N:=qh N;have U:=d.o.size;have h:∀(z:Int),z=bkX na x q->∀(D:World) (G F:Nat),D.ownsRow w.heap.size 3 1 (.slice (some (Ad G 0)) (q+1) F) (q+1) (ivs q (bkX na x)++[.int .i64 z])->(wr.alloc (.cells #[.int .i64 z] 3)).grownBy D (Value.slice Z q yc).ownBlock ->
    Below w.heap.size w D/\D.ownsRow w.heap.size 3 1 (.slice (some (Ad G 0)) (q+1) F) (q+1) (ivs (q+1) (bkX na x)):=λz hz D G F h1 h2 =>
   ⟨Xc d.o d.o.size c.o h2,by rw[Vz,<-hz];exact h1⟩
  replace h:=qh h
  go_wp2_with (at_builtin;refine wpList_append_lies _ rfl (.tmp 12) (.tmp 17) 25 rfl w.heap.size 3 i0 (.int .i64 0) 1 8 underlying25 s.o A.o B.o C.o rfl (by omega) (.slice Z q yc) q _ (by first|rfl|simp[Act.eval,Act.put]) (World.ownsRow.alloc c.o _) (Ad wr.heap.size 0) 1 1 [.int .i64 E] (by first|rfl|simp[Act.eval,Act.put]) rfl (Fi (cs:=#[.int .i64 E]) (han wr _)) (one_cell _ _) (by omega) (by unfold maxLen;omega) (by omega) (by simp;omega) _ rfl ?_;intro G F D j i J H;have T:=qh<|h.o E HZ.o D G F j i;clear j i J H)
  go_roundw
  case rel=>exact⟨q+1,by omega,by rw[k.o],T.o.1,T.o.2⟩
  first|(simp[intOf];done)|(simp[intOf];omega)|omega
 have P:q=na:=by omega
 subst P;rw[show (q:Int)-1-(q:Int)=-1 by omega];go_wp2;go_ret;exact⟨d.o,_,rfl,c.o⟩
end
end Go.Proofs.YteappjogmnogcaaGreatDoor
