/- arguments laid open -/
import Derived.Test.YtlhodalfbmdnnaaDoorPx0
import Derived.WalkKit
import Derived.ProofKit
import Derived.OpenShut
namespace Go.Proofs.YtlhodalfbmdnnaaDoor
open Go.RowKit
end Go.Proofs.YtlhodalfbmdnnaaDoor
