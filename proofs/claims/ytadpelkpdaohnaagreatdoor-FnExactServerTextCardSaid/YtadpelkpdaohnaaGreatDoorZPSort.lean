/- Sets of numbers: put, sort, compact, unite. -/
import Derived.Test.YtadpelkpdaohnaaGreatDoorZPDel
namespace Go.Proofs.YtadpelkpdaohnaaGreatDoor.En
open Go
end Go.Proofs.YtadpelkpdaohnaaGreatDoor.En
