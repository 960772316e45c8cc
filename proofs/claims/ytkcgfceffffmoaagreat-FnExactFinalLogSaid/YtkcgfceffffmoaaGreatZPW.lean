/- What the laws' own helpers compute: sizes, copies, equality. -/
import Derived.Test.YtkcgfceffffmoaaGreatZB
namespace Go.Proofs.YtkcgfceffffmoaaGreat.En
open Go
def jD (M:Nat) (c:au):Prop:=c.replicas.length≤M∧c.witnesses.length≤M
def kx (M:Nat) (m:bo):Prop:=m.configs.length≤M∧ ∀ c∈m.configs,jD M c
end Go.Proofs.YtkcgfceffffmoaaGreat.En
