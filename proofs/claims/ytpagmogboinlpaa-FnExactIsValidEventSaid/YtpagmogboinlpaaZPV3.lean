/- Lists of servers, on: what is left out; valid configurations. -/
import Derived.Test.YtpagmogboinlpaaZPV2
namespace Go.Proofs.Ytpagmogboinlpaa.En
open Go
end Go.Proofs.Ytpagmogboinlpaa.En
