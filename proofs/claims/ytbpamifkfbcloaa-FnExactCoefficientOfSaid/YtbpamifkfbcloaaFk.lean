/- Sums, products, differences, quotients of fractions by their options: impl and spec. -/
import Derived.Test.YtbpamifkfbcloaaFr2
import Derived.Test.YtbpamifkfbcloaaSf2
import Derived.Test.YtbpamifkfbcloaaFm
namespace Go.Proofs.Ytbpamifkfbcloaa
open Go.RowKit
end Go.Proofs.Ytbpamifkfbcloaa
