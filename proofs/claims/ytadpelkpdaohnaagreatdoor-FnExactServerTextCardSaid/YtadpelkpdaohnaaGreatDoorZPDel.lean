/- slices.DeleteFunc, slices.Concat at []int. -/
import Derived.Test.YtadpelkpdaohnaaGreatDoorZPCopy
namespace Go.Proofs.YtadpelkpdaohnaaGreatDoor.En
open Go
end Go.Proofs.YtadpelkpdaohnaaGreatDoor.En
