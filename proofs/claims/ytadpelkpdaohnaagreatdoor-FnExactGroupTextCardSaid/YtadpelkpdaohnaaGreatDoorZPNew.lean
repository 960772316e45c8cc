/- New formats. -/
import Derived.Test.YtadpelkpdaohnaaGreatDoorZPV6
namespace Go.Proofs.YtadpelkpdaohnaaGreatDoor.En
open Go
end Go.Proofs.YtadpelkpdaohnaaGreatDoor.En
