/- The reference's round of siphash. -/
import Derived.Test.YtfmkndemkpecpaaSipS
namespace Go.Proofs.Ytfmkndemkpecpaa
open Go.RowKit
set_option linter.unusedVariables false
attribute [local go_sem ↓] sliced_cut
attribute [local go_sem] cutA_zero wadd wxor

end Go.Proofs.Ytfmkndemkpecpaa
