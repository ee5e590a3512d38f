/- siphash.Fold and the law on it. -/
import Derived.Test.YtdaicdjjdmgobaaSipW
namespace Go.Proofs.Ytdaicdjjdmgobaa
open Go.RowKit
set_option linter.unusedVariables false

theorem and_mask (n k : Nat) (hn : n < 18446744073709551616) (h1 : 1 ≤ k) (h2 : k ≤ 63) : bits .and .u64 (n : Int) (IntKind.u64.wrap (IntKind.u64.wrap (2 ^ k) - 1)) = ((n % 2 ^ k : Nat) : Int) := by
  have hp : (2 : Nat) ^ k ≤ 2 ^ 63 := Nat.pow_le_pow_right (by decide) h2
  have h0 : 0 < (2 : Nat) ^ k := Nat.pow_pos (by decide)
  have e : ((2 : Int) ^ k) = ((2 ^ k : Nat) : Int) := by simp
  have e1 : IntKind.u64.wrap (IntKind.u64.wrap (2 ^ k) - 1) = ((2 ^ k - 1 : Nat) : Int) := by
    rw [e, IntKind.wrap_u64, IntKind.wrap_u64]
    omega
  rw [e1, u64_and_nat _ _ hn (by omega), Nat.and_two_pow_sub_one_eq_mod]

set_option maxHeartbeats 1000000 in
theorem fold_in (n k : Nat) (w : World) (hn : n < 18446744073709551616) (h1 : 1 ≤ k) (h2 : k ≤ 63) : Calls Try.prog 34 #[.int .u64 n, .int .i64 k] w fun e w' => e = .returned (.int .u64 (n % 2 ^ k : Nat)) ∧ w = w' := by
  have d1 : decide ((k : Int) < 1) = false := by simp; omega
  have d2 : decide (63 < (k : Int)) = false := by simp; omega
  go_enter Try.func34, Try.ntmps34
  go_wp2
  go_ret
  refine ⟨?_, rfl⟩
  rw [← and_mask n k hn h1 h2]
  rfl
theorem fold_out (n : Nat) (k : Int) (w : World) (hn : n < 18446744073709551616) (h : k < 1 ∨ 63 < k) : Calls Try.prog 34 #[.int .u64 n, .int .i64 k] w fun e w' => e = .returned (.int .u64 n) ∧ w = w' := by
  by_cases h1 : k < 1
  · have d1 : decide (k < 1) = true := by simp; omega
    go_enter Try.func34, Try.ntmps34
    go_wp2
    go_ret
    exact ⟨rfl, rfl⟩
  · have d1 : decide (k < 1) = false := by simp; omega
    have d2 : decide (63 < k) = true := by simp; omega
    go_enter Try.func34, Try.ntmps34
    go_wp2
    go_ret
    exact ⟨rfl, rfl⟩
set_option maxHeartbeats 1000000 in
theorem siphashFolds_walk (w : World) (n : Int) (w0 : 0 ≤ n ∧ n ≤ 18446744073709551615) (s : Int) (w1 : -9223372036854775808 ≤ s ∧ s ≤ 9223372036854775807) :
    Calls Try.prog 8 #[.int .u64 n, .int .i64 s] w fun e w' => e = .returned (.bool true) ∧ Below w.heap.size w w' := by
  obtain ⟨n, rfl⟩ := Int.eq_ofNat_of_zero_le w0.1
  have hn : n < 18446744073709551616 := by omega
  by_cases h : s < 1 ∨ 63 < s
  · by_cases h1 : s < 1
    · have d1 : decide (1 ≤ s) = false := by simp; omega
      go_enter Try.func8, Try.ntmps8
      go_wp2_with (first
        | (go_at_call 34; refine (fold_out n s _ hn h).mono ?_; rintro e w2 ⟨rfl, rfl⟩)
        | (go_at_call 26; refine (awake_any _).mono ?_; rintro e w2 ⟨bs2, d2, rfl, rfl⟩))
      go_ret
      exact ⟨rfl, below_plus _ _ _⟩
    · have d1 : decide (1 ≤ s) = true := by simp; omega
      have d2 : decide (s ≤ 63) = false := by simp; omega
      go_enter Try.func8, Try.ntmps8
      go_wp2_with (first
        | (go_at_call 34; refine (fold_out n s _ hn h).mono ?_; rintro e w2 ⟨rfl, rfl⟩)
        | (go_at_call 26; refine (awake_any _).mono ?_; rintro e w2 ⟨bs2, d2, rfl, rfl⟩))
      go_ret
      exact ⟨rfl, below_plus _ _ _⟩
  · obtain ⟨k, rfl⟩ : ∃ k : Nat, s = k := ⟨s.toNat, by omega⟩
    have k1 : 1 ≤ k := by omega
    have k2 : k ≤ 63 := by omega
    have d1 : decide (1 ≤ (k : Int)) = true := by simp; omega
    have d2 : decide ((k : Int) ≤ 63) = true := by simp; omega
    clear h w0 w1
    go_enter Try.func8, Try.ntmps8
    go_wp2
    clear d1 d2
    go_loop [6, 7] (fun p i => ∃ j : Nat, j ≤ k ∧ i = .int .i64 j ∧ p = .int .u64 ((2 ^ j : Nat) : Int)) (fun _ i => k - (intOf i).toNat)
    case atStart => exact ⟨0, Nat.zero_le _, rfl, rfl⟩
    case round =>
      obtain ⟨j, hj, rfl, rfl⟩ := hrel
      have hp : (2 : Nat) ^ j ≤ 2 ^ 63 := Nat.pow_le_pow_right (by decide) (by omega)
      have HP := Lib.hid (Nat.pow_succ 2 j)
      have HK := Lib.hid (rfl : 2 ^ j = 2 ^ j)
      generalize hP : 2 ^ j = P at *
      have HQ := Lib.hid hP
      clear hP
      have hp2 : P ≤ 9223372036854775808 := hp
      by_cases hlt : j < k
      · have hp3 : P ≤ 4611686018427387904 := by
          have := Nat.pow_le_pow_right (n := 2) (by decide) (show j ≤ 62 by omega)
          rw [HQ.out] at this
          exact this
        go_wp2
        refine ⟨⟨j + 1, by omega, by go_num, ?_⟩, by simp [intOf]; omega⟩
        rw [HP.out]
        simp
      · obtain rfl : j = k := by omega
        have hP0 : 0 < P := by rw [← HQ.out]; exact Nat.pow_pos (by decide)
        have e1 := fun w => fold_in n j w hn k1 k2
        rw [HQ.out] at e1
        have E1 := Lib.hid e1
        clear e1
        go_wp2_with (first
          | (go_at_call 34; refine (E1.out _).mono ?_; rintro e w2 ⟨rfl, rfl⟩)
          | (go_at_call 26; refine (awake_any _).mono ?_; rintro e w2 ⟨bs2, d2, rfl, rfl⟩))
        go_ret
        exact ⟨rfl, below_plus _ _ _⟩
end Go.Proofs.Ytdaicdjjdmgobaa
