/- What a valid cluster is known to have. -/
import Derived.Test.YtkcgfceffffmoaaGreatZPV5
namespace Go.Proofs.YtkcgfceffffmoaaGreat.En
open Go
structure VC (x:fS):Prop where
 len:x.servers.length=5
 ml:cA x.master=some (true,())
 sides:gS x.sides=some (true,())
 places:gy x.places=some (true,())
 lease:im x.lease=some (true,())
 now:0≤x.now∧x.now≤999
 up:0≤x.masterUp∧x.masterUp≤3
 srv: ∀ k (hk:k < x.servers.length),eC x.servers[k] (k:Int)=some (true,())
end Go.Proofs.YtkcgfceffffmoaaGreat.En
