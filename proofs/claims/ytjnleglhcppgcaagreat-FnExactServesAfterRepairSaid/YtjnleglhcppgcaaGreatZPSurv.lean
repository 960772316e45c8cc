/- The longest survivor. -/
import Derived.Test.YtjnleglhcppgcaaGreatZPData
import Derived.Test.YtjnleglhcppgcaaGreatZPAlive
namespace Go.Proofs.YtjnleglhcppgcaaGreat.En
open Go
end Go.Proofs.YtjnleglhcppgcaaGreat.En
