/- The row of Ip4Long. -/
import Derived.Test.YtldecdeiibfekaaIp4S
namespace Go.Proofs.Ytldecdeiibfekaa
open Go.RowKit
theorem ip4Long_row (w : World) (a : Int) (ha : 0 ≤ a ∧ a ≤ 255) (b : Int) (hb : 0 ≤ b ∧ b ≤ 255) :
    Calls Try.prog 6 #[.int .u8 a, .int .u8 b] w fun e w' => e = .returned (.bool true) ∧ Below w.heap.size w w' := by
  obtain ⟨a, rfl⟩ := Int.eq_ofNat_of_zero_le ha.1
  obtain ⟨b, rfl⟩ := Int.eq_ofNat_of_zero_le hb.1
  exact ip4Long_walk w a b (by omega) (by omega)
end Go.Proofs.Ytldecdeiibfekaa
