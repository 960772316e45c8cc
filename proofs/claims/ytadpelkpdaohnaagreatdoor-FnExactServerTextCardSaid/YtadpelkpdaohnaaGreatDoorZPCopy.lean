/- Copies of clusters; the version of a server. -/
import Derived.Test.YtadpelkpdaohnaaGreatDoorZPNew
import Derived.Test.YtadpelkpdaohnaaGreatDoorZPMk
namespace Go.Proofs.YtadpelkpdaohnaaGreatDoor.En
open Go
end Go.Proofs.YtadpelkpdaohnaaGreatDoor.En
