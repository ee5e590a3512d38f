/- Fragment of a header of IPv4. -/
import Derived.Test.YtldecdeiibfekaaIp4C
namespace Go.Proofs.Ytldecdeiibfekaa
open Go.RowKit
set_option linter.unusedVariables false
set_option linter.unusedSimpArgs false
attribute [local go_sem ↓] sliced_cut
attribute [local go_sem] cutA_zero

set_option maxRecDepth 100000 in
theorem fragment4 (ts : Nat) (ln : Int) (id : Nat) (st mo : Bool) (fo : Int) (tl pr sm : Nat) (s6 : Bool) (sh sl : Nat) (d6 : Bool) (dh dl : Nat) (A : Option Addr) (n k : Nat) (w : World) : Calls Try.prog 51 #[.agg (h4C ts ln id st mo fo tl pr sm s6 sh sl d6 dh dl A n k).toArray] w (RetV w (.bool (mo || decide (0 < fo)))) := by
  unfold h4C
  go_enter Try.func51, Try.ntmps51
  cases mo <;> go_wp2 <;> go_ret <;> exact RetV.is_ (by first | rfl | simp) (by first | exact Below.allocS (Below.refl _ _) _ | exact Below.refl _ _)
end Go.Proofs.Ytldecdeiibfekaa
