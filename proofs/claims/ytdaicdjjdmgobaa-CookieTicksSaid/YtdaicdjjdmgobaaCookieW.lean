/- The walks of the two laws on ticks (chapter 12): the Go text returns true at every input. -/
import Derived.Test.YtdaicdjjdmgobaaRows
import Derived.WalkKit
import Derived.OpenShut
import Derived.Below
namespace Go.Proofs.Ytdaicdjjdmgobaa
open Go.RowKit
set_option linter.unusedVariables false
attribute [local go_sem] IntKind.wrap_u16

theorem ticks_or (a c : Int) (h0 : 0 ≤ a) (h1 : a ≤ 4294967295) (h2 : 0 ≤ c) (h3 : c ≤ 65535) :
    bits .or .u32 (a * 65536 % 4294967296) c = a % 65536 * 65536 + c := by
  rw [u32_or _ _ (by omega) (by omega) (by omega) (by omega), nat_join 16 _ _ (by omega) (by omega)]
  omega

theorem ticks_walk (a0 : Int) (w0 : 0 ≤ a0 ∧ a0 ≤ 4294967295) (a1 : Int) (w1 : 0 ≤ a1 ∧ a1 ≤ 65535) (a2 : Int) (w2 : 0 ≤ a2 ∧ a2 ≤ 4294967295) (a3 : Int) (w3 : 0 ≤ a3 ∧ a3 ≤ 4294967295) (w : World) :
    Calls Try.prog 3 #[.int .u32 a0, .int .u16 a1, .int .u32 a2, .int .u32 a3] w fun e w' => e = .returned (.bool true) ∧ Below w.heap.size w w' := by
  obtain ⟨l0, l1⟩ := w0
  obtain ⟨l2, l3⟩ := w1
  obtain ⟨l4, l5⟩ := w2
  obtain ⟨l6, l7⟩ := w3
  have e1 := ticks_or a0 a1 l0 l1 l2 l3
  go_enter Try.func3, Try.ntmps3
  go_wp2
  go_ret
  exact ⟨rfl, Below.refl _ _⟩

theorem restores_walk (a0 : Int) (w0 : 0 ≤ a0 ∧ a0 ≤ 4294967295) (a1 : Int) (w1 : 0 ≤ a1 ∧ a1 ≤ 65535) (a2 : Int) (w2 : 0 ≤ a2 ∧ a2 ≤ 65535) (a3 : Int) (w3 : 0 ≤ a3 ∧ a3 ≤ 65535) (w : World) :
    Calls Try.prog 4 #[.int .u32 a0, .int .u16 a1, .int .u16 a2, .int .u16 a3] w fun e w' => e = .returned (.bool true) ∧ Below w.heap.size w w' := by
  obtain ⟨l0, l1⟩ := w0
  obtain ⟨l2, l3⟩ := w1
  obtain ⟨l4, l5⟩ := w2
  obtain ⟨l6, l7⟩ := w3
  have e1 := ticks_or a0 a1 l0 l1 l2 l3
  have e2 := ticks_or ((a0 + a3 % 32768) % 4294967296) a1 (by omega) (by omega) l2 l3
  go_enter Try.func4, Try.ntmps4
  go_wp2
  go_ret
  exact ⟨rfl, Below.refl _ _⟩
end Go.Proofs.Ytdaicdjjdmgobaa
