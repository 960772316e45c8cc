/- DowngradeServer: the plain law. -/
import Derived.Test.YtjnleglhcppgcaaGreatZPUp
namespace Go.Proofs.YtjnleglhcppgcaaGreat.En
open Go
def TN (l:List ea):Bool:=l.any fun e=>e.op.kind==2
def O2 (c:dW) (s:dX):Bool:=decide (s.config=c)&&TN s.log
end Go.Proofs.YtjnleglhcppgcaaGreat.En
