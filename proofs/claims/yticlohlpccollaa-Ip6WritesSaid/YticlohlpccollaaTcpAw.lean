/- The example of chapter 6. -/
import Derived.Test.YticlohlpccollaaTcpS
namespace Go.Proofs.Yticlohlpccollaa
open Go.RowKit
set_option linter.unusedVariables false
set_option linter.unusedSimpArgs false
attribute [local go_sem ↓] sliced_cut
attribute [local go_sem] cutA_zero


theorem tcpAwake (w : World) : Calls Try.prog 15 #[] w fun e w' => e = .returned (.bool true) ∧ ∃ bs m, w' = plus w bs m := by
  have H := fun W (hW : Rb W (some ⟨w.heap.size, 0, none⟩) 12 12 [1, 1, 8, 10, 0, 0, 0, 1, 0, 0, 0, 2]) => stamps_any _ 12 12 _ W hW (by omega)
  rw [show stampsAt [1, 1, 8, 10, 0, 0, 0, 1, 0, 0, 0, 2] = some 4 by decide +kernel] at H
  replace H := Lib.hid H
  go_enter Try.func15, Try.ntmps15
  go_wp2_with (go_at_call 94; refine (H.out _ (Ob.lit w (Nat.le_refl _) #[.int .u8 1, .int .u8 1, .int .u8 8, .int .u8 10, .int .u8 0, .int .u8 0, .int .u8 0, .int .u8 1, .int .u8 0, .int .u8 0, .int .u8 0, .int .u8 2] _ 12 rfl (by decide) rfl).rb).mono ?_; rintro e w1 ⟨rfl, rfl⟩; simp only [resS])
  go_ret
  exact ⟨rfl, plus_of ((Below.refl _ _).alloc (Nat.le_refl _) _)⟩
end Go.Proofs.Yticlohlpccollaa
