/- siphash.Fold and the law on it. -/
import Derived.Test.YtfmkndemkpecpaaSipW
namespace Go.Proofs.Ytfmkndemkpecpaa
open Go.RowKit
set_option linter.unusedVariables false

theorem and_mask (n k : Nat) (hn : n < 18446744073709551616) (h1 : 1 ≤ k) (h2 : k ≤ 63) : bits .and .u64 (n : Int) (IntKind.u64.wrap (IntKind.u64.wrap (2 ^ k) - 1)) = ((n % 2 ^ k : Nat) : Int) := by
  have hp : (2 : Nat) ^ k ≤ 2 ^ 63 := Nat.pow_le_pow_right (by decide) h2
  have h0 : 0 < (2 : Nat) ^ k := Nat.pow_pos (by decide)
  have e : ((2 : Int) ^ k) = ((2 ^ k : Nat) : Int) := by simp
  have e1 : IntKind.u64.wrap (IntKind.u64.wrap (2 ^ k) - 1) = ((2 ^ k - 1 : Nat) : Int) := by
    rw [e, IntKind.wrap_u64, IntKind.wrap_u64]
    omega
  rw [e1, u64_and_nat _ _ hn (by omega), Nat.and_two_pow_sub_one_eq_mod]

end Go.Proofs.Ytfmkndemkpecpaa
