/- DowngradeServer: the plain law. -/
import Derived.Test.YtkcgfceffffmoaaGreatZPUp
namespace Go.Proofs.YtkcgfceffffmoaaGreat.En
open Go
def ata (l:List ed):Bool:=l.any fun e=>e.op.kind==2
def ao7 (c:dW) (s:eb):Bool:=decide (s.config=c)&&ata s.log
end Go.Proofs.YtkcgfceffffmoaaGreat.En
