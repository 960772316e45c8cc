/- Marks of a cluster: what is written is found again. -/
import Derived.Test.YtjnleglhcppgcaaGreatZPM
namespace Go.Proofs.YtjnleglhcppgcaaGreat.En
open Go
end Go.Proofs.YtjnleglhcppgcaaGreat.En
