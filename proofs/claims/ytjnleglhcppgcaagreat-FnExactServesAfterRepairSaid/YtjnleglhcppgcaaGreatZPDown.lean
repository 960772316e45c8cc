/- DowngradeServer: the plain law. -/
import Derived.Test.YtjnleglhcppgcaaGreatZPUp
namespace Go.Proofs.YtjnleglhcppgcaaGreat.En
open Go
end Go.Proofs.YtjnleglhcppgcaaGreat.En
