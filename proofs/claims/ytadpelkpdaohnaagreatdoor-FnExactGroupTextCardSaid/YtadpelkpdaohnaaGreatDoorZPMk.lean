/- Marks of a cluster: what is written is found again. -/
import Derived.Test.YtadpelkpdaohnaaGreatDoorZPM
namespace Go.Proofs.YtadpelkpdaohnaaGreatDoor.En
open Go
end Go.Proofs.YtadpelkpdaohnaaGreatDoor.En
