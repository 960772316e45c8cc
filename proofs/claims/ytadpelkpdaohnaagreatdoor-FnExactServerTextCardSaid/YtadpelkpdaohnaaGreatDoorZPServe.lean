/- Who hears whom; the primary that serves. -/
import Derived.Test.YtadpelkpdaohnaaGreatDoorZPSort
import Derived.Test.YtadpelkpdaohnaaGreatDoorZPAct
import Derived.Test.YtadpelkpdaohnaaGreatDoorZPCopy
import Derived.Test.YtadpelkpdaohnaaGreatDoorZPAlive
namespace Go.Proofs.YtadpelkpdaohnaaGreatDoor.En
open Go
theorem Iq {x:ev} (ok:qV 1048576 x) (vc:VC x) {a:Int} (ha:0<=a/\a<5): ∃s,x.servers[a.toNat]? =some s/\lP 1048576 s/\dX s a=some (true,()):=by
 have hlt:a.toNat<x.servers.length:=by rw[vc.len]; omega
 refine⟨_,ah hlt,ok.1.2 _ (b7 hlt),?_⟩;have:=vc.srv _ hlt
 rwa [Int.toNat_of_nonneg ha.1] at this
end Go.Proofs.YtadpelkpdaohnaaGreatDoor.En
