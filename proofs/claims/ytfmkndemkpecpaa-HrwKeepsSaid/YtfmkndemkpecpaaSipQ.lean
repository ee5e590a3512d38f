/- The reference's Sum of siphash. -/
import Derived.Test.YtfmkndemkpecpaaSipR
import Derived.Test.YtfmkndemkpecpaaSipP
namespace Go.Proofs.Ytfmkndemkpecpaa
open Go.RowKit
set_option linter.unusedVariables false
attribute [local go_sem ↓] sliced_cut
attribute [local go_sem] cutA_zero wadd wxor xc1 xc2 xc3 xc4 xc5

end Go.Proofs.Ytfmkndemkpecpaa
