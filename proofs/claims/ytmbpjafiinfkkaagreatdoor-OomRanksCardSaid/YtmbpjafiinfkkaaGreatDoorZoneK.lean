/- The chapter's examples of zone. -/
import Derived.Test.YtmbpjafiinfkkaaGreatDoorZoneR
namespace Go.Proofs.YtmbpjafiinfkkaaGreatDoor
set_option linter.unusedSimpArgs false
set_option linter.unusedVariables false
open Go.RowKit Go.Maps

end Go.Proofs.YtmbpjafiinfkkaaGreatDoor
