/- siphash.Fold and the law on it. -/
import Derived.Test.YtldecdeiibfekaaSipW
namespace Go.Proofs.Ytldecdeiibfekaa
open Go.RowKit
set_option linter.unusedVariables false

theorem and_mask (n k : Nat) (hn : n < 18446744073709551616) (h1 : 1 ≤ k) (h2 : k ≤ 63) : bits .and .u64 (n : Int) (IntKind.u64.wrap (IntKind.u64.wrap (2 ^ k) - 1)) = ((n % 2 ^ k : Nat) : Int) := by
  have hp : (2 : Nat) ^ k ≤ 2 ^ 63 := Nat.pow_le_pow_right (by decide) h2
  have h0 : 0 < (2 : Nat) ^ k := Nat.pow_pos (by decide)
  have e : ((2 : Int) ^ k) = ((2 ^ k : Nat) : Int) := by simp
  have e1 : IntKind.u64.wrap (IntKind.u64.wrap (2 ^ k) - 1) = ((2 ^ k - 1 : Nat) : Int) := by
    rw [e, IntKind.wrap_u64, IntKind.wrap_u64]
    omega
  rw [e1, u64_and_nat _ _ hn (by omega), Nat.and_two_pow_sub_one_eq_mod]

set_option maxHeartbeats 1000000 in
theorem fold_in (n k : Nat) (w : World) (hn : n < 18446744073709551616) (h1 : 1 ≤ k) (h2 : k ≤ 63) : Calls Try.prog 158 #[.int .u64 n, .int .i64 k] w fun e w' => e = .returned (.int .u64 (n % 2 ^ k : Nat)) ∧ w = w' := by
  have d1 : decide ((k : Int) < 1) = false := by simp; omega
  have d2 : decide (63 < (k : Int)) = false := by simp; omega
  go_enter Try.func158, Try.ntmps158
  go_wp2
  go_ret
  refine ⟨?_, rfl⟩
  rw [← and_mask n k hn h1 h2]
  rfl
theorem fold_out (n : Nat) (k : Int) (w : World) (hn : n < 18446744073709551616) (h : k < 1 ∨ 63 < k) : Calls Try.prog 158 #[.int .u64 n, .int .i64 k] w fun e w' => e = .returned (.int .u64 n) ∧ w = w' := by
  by_cases h1 : k < 1
  · have d1 : decide (k < 1) = true := by simp; omega
    go_enter Try.func158, Try.ntmps158
    go_wp2
    go_ret
    exact ⟨rfl, rfl⟩
  · have d1 : decide (k < 1) = false := by simp; omega
    have d2 : decide (63 < k) = true := by simp; omega
    go_enter Try.func158, Try.ntmps158
    go_wp2
    go_ret
    exact ⟨rfl, rfl⟩
end Go.Proofs.Ytldecdeiibfekaa
