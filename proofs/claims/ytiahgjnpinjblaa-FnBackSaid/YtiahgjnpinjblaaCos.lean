/- Compose, the reference's walk. -/
import Derived.Test.YtiahgjnpinjblaaCms
namespace Go.Proofs.Ytiahgjnpinjblaa
open Go.RowKit
end Go.Proofs.Ytiahgjnpinjblaa
