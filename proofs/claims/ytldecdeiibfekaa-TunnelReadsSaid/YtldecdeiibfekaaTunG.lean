/- The row of TunnelReads. -/
import Derived.Test.YtldecdeiibfekaaTunF
namespace Go.Proofs.Ytldecdeiibfekaa
open Go.RowKit
theorem tunnelReads_row (w : World) (A : Option Addr) (c : Nat) (l : List UInt8) (hl : l.length ≤ c) (hc : c ≤ maxLen) (hr : Rd w w.heap.size A (bcs l)) :
    Calls Try.prog 12 #[.slice A l.length c] w fun e w' => e = .returned (.bool true) ∧ Below w.heap.size w w' :=
  tunnelReads_walk w A l.length c l ⟨rfl, hl, hr⟩ hc
end Go.Proofs.Ytldecdeiibfekaa
