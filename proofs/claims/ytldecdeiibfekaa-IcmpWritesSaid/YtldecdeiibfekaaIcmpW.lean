/- The walks of the laws of chapter 8. -/
import Derived.Test.YtldecdeiibfekaaIcmp
namespace Go.Proofs.Ytldecdeiibfekaa
open Go.RowKit
set_option linter.unusedVariables false
attribute [local go_sem ↓] sliced_cut
attribute [local go_sem] cutA_zero

set_option maxHeartbeats 1000000 in
theorem icmpAwake (w : World) : Calls Try.prog 16 #[] w fun e w' => e = .returned (.bool true) ∧ ∃ bs d, w' = plus w bs d := by
  go_enter Try.func16, Try.ntmps16
  go_wp2_with fail
  refine (icmpBig_any _ _ _ [7, 8, 9] 1400 false _ (Ob.lit w (Nat.le_refl _) #[.int .u8 7, .int .u8 8, .int .u8 9] [7, 8, 9] 3 rfl (by decide) rfl).rb (by omega) (by omega) (by omega)).mono ?_
  rintro e w1 ⟨A1, n1, c1, bs1, d1, rfl, rfl, ho1⟩
  have l1 : n1 ≤ 100 := by have := ho1.len; simp at this; omega
  go_wp2_with fail
  refine (icmpBytes_any _ _ _ _ _ _ _ _ _ (by omega) (by omega) (by omega) (by omega) ho1.rb (by omega)).mono ?_
  rintro e w2 ⟨A2, n2, c2, bs2, d2, rfl, rfl, ho2⟩
  have hl := ho2.len
  obtain rfl : n2 = 11 := by rw [← hl]; rfl
  clear hl
  obtain ⟨b, off, rfl, _, hc⟩ := ho2.rb.2.2.at_ (by decide)
  have h0 := hc 0 (.int .u8 3) rfl
  rw [Nat.add_zero] at h0
  have h1 := hc 1 (.int .u8 4) rfl
  clear hc
  go_wp2
  go_ret
  refine ⟨rfl, plus_of (toPlus (toPlus ((Below.refl _ _).alloc (Nat.le_refl _) _) (by simp) _ _) (by simp [size_plus]; omega) _ _)⟩

end Go.Proofs.Ytldecdeiibfekaa
