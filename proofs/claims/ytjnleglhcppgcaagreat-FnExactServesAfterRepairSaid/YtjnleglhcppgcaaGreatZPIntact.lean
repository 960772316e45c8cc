/- Intact replicas; total losses. -/
import Derived.Test.YtjnleglhcppgcaaGreatZPAct
namespace Go.Proofs.YtjnleglhcppgcaaGreat.En
open Go
end Go.Proofs.YtjnleglhcppgcaaGreat.En
