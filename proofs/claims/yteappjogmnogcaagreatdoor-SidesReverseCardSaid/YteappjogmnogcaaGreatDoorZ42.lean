/- Parts. -/
import Derived.Test.YteappjogmnogcaaGreatDoorZ39
import Derived.Test.YteappjogmnogcaaGreatDoorZ26
namespace Go.Proofs.YteappjogmnogcaaGreatDoor
set_option maxRecDepth 100000
set_option linter.all false
set_option maxHeartbeats 16000000
open Go Tryz
section
open Go CSR
def Wv.rev{D:MD}{na nb:Nat}{x y:Nat->Int}{z j:ByteArray × Nat}(c:VM D)(l:VM (revD D))(h:Wv (revD D) na x nb y z)(m:Wv D na (λi=>x (na-1-i)) nb (λi=>y (nb-1-i)) j)(p:z.2=0)(g:j.2=0):z.1=j.1:=by
 refine h.eq m l (KI D).symm (λk o=>?_) p g;have d:k.1=D.kind:=o.trans<|KI D;rw[Od,Od];exact(Ye c d).rel' (c.inn k) (l.inn k) (c.stn k) _ _
end
end Go.Proofs.YteappjogmnogcaaGreatDoor
