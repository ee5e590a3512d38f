/- The laws on rings (chapter 11): RingKeeps, RingKeys. -/
import Derived.Test.YtldecdeiibfekaaRingR
namespace Go.Proofs.Ytldecdeiibfekaa
open Go.RowKit
set_option linter.unusedVariables false
set_option linter.unusedSimpArgs false
attribute [local go_sem ↓] sliced_cut
attribute [local go_sem] cutA_zero
attribute [local go_sem ↓] eql_key eql_key'
theorem neq_key (w : World) (a b : List UInt8) (ha : K16 a) (hb : K16 b) : (binOp .neq 54 (.agg (bcs a).toArray) (.agg (bcs b).toArray)).run Try.prog w = .ok (.bool (!(a == b))) w := by
  rw [run_neq_struct, show bcs a = a.map Extern.Stop.cell from rfl, show bcs b = b.map Extern.Stop.cell from rfl, run_equalIn_bytes w 9998 54 5 16 Try.underlying54 Try.underlying5 szU8 a b ha hb]
  rfl
theorem neq_key' (w : World) (a b : List UInt8) (ha : K16 a) (hb : K16 b) : (binOp .neq 49 (.agg (bcs a).toArray) (.agg (bcs b).toArray)).run Try.prog w = .ok (.bool (!(a == b))) w := by
  rw [run_neq_struct, show bcs a = a.map Extern.Stop.cell from rfl, show bcs b = b.map Extern.Stop.cell from rfl, run_equalIn_bytes w 9998 49 5 16 Try.underlying49 Try.underlying5 szU8 a b ha hb]
  rfl
attribute [local go_sem ↓] neq_key neq_key'

/-- the key of the chapter's example -/
def key1 : List UInt8 := 1 :: List.replicate 15 0
theorem K16_1 : K16 key1 := rfl
set_option maxRecDepth 100000 in
theorem run_buildKey1 (w : World) : (Instr.build 54 #[(0, .int .u8 1)]).run Try.prog w = .ok (.agg (bcs key1).toArray) w := by kernel_rfl
theorem at_ex0 : atR key1 0 1 = none := by simp [atR]
theorem at_ex1 : atR key1 1 0 = some (derK key1 0) := by simp [atR]
theorem atV_none : atV none = .tuple #[.agg (bcs key0).toArray, .bool false] := rfl
theorem atV_some (k : List UInt8) : atV (some k) = .tuple #[.agg (bcs k).toArray, .bool true] := rfl

end Go.Proofs.Ytldecdeiibfekaa
