/- The walks of semi's exported functions: Over. -/
import Derived.Test.YtlmfppjphblemaaGreatDoorSemF
import Derived.Test.YtlmfppjphblemaaGreatDoorML
namespace Go.Proofs.YtlmfppjphblemaaGreatDoor
open Go Go.RowKit
set_option maxRecDepth 100000

end Go.Proofs.YtlmfppjphblemaaGreatDoor
