/- Lists of servers: common ones, and those without others. -/
import Derived.Test.YtpagmogboinlpaaZPV1
namespace Go.Proofs.Ytpagmogboinlpaa.En
open Go
end Go.Proofs.Ytpagmogboinlpaa.En
