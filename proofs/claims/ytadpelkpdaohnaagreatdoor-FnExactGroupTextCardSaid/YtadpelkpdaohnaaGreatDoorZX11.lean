import Derived.Test.YtadpelkpdaohnaaGreatDoorZX10
import Derived.Test.YtadpelkpdaohnaaGreatDoorZX6
import Derived.Shelf.RegionOpenPlain
import Derived.WalkKit
import Derived.Lib.Walk
import Derived.Lib.SliceRun
import Derived.Laws.Externs
import Derived.Laws.IdiomCopy
import Derived.Lib.Strings
import Derived.Lib.Slices
import Derived.Lib.Bytealg
namespace Go.Proofs.YtadpelkpdaohnaaGreatDoor.En
section
open Go Go.RowKit
end
section
open Go Go.RowKit
end
end Go.Proofs.YtadpelkpdaohnaaGreatDoor.En
