/- What the laws' own helpers compute: sizes, copies, equality. -/
import Derived.Test.YtpagmogboinlpaaZB
namespace Go.Proofs.Ytpagmogboinlpaa.En
open Go
end Go.Proofs.Ytpagmogboinlpaa.En
