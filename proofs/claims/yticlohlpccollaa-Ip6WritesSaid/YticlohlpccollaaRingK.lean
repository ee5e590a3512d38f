/- The laws on rings (chapter 11): RingKeeps, RingKeys. -/
import Derived.Test.YticlohlpccollaaRingR
namespace Go.Proofs.Yticlohlpccollaa
open Go.RowKit
set_option linter.unusedVariables false
set_option linter.unusedSimpArgs false
attribute [local go_sem ↓] sliced_cut
attribute [local go_sem] cutA_zero
attribute [local go_sem ↓] eql_key eql_key'
theorem neq_key (w : World) (a b : List UInt8) (ha : K16 a) (hb : K16 b) : (binOp .neq 53 (.agg (bcs a).toArray) (.agg (bcs b).toArray)).run Try.prog w = .ok (.bool (!(a == b))) w := by
  rw [run_neq_struct, show bcs a = a.map Extern.Stop.cell from rfl, show bcs b = b.map Extern.Stop.cell from rfl, run_equalIn_bytes w 9998 53 5 16 Try.underlying53 Try.underlying5 szU8 a b ha hb]
  rfl
theorem neq_key' (w : World) (a b : List UInt8) (ha : K16 a) (hb : K16 b) : (binOp .neq 49 (.agg (bcs a).toArray) (.agg (bcs b).toArray)).run Try.prog w = .ok (.bool (!(a == b))) w := by
  rw [run_neq_struct, show bcs a = a.map Extern.Stop.cell from rfl, show bcs b = b.map Extern.Stop.cell from rfl, run_equalIn_bytes w 9998 49 5 16 Try.underlying49 Try.underlying5 szU8 a b ha hb]
  rfl
attribute [local go_sem ↓] neq_key neq_key'

/-- the key of the chapter's example -/
def key1 : List UInt8 := 1 :: List.replicate 15 0
theorem K16_1 : K16 key1 := rfl
set_option maxRecDepth 100000 in
theorem run_buildKey1 (w : World) : (Instr.build 53 #[(0, .int .u8 1)]).run Try.prog w = .ok (.agg (bcs key1).toArray) w := by kernel_rfl
theorem at_ex0 : atR key1 0 1 = none := by simp [atR]
theorem at_ex1 : atR key1 1 0 = some (derK key1 0) := by simp [atR]
theorem atV_none : atV none = .tuple #[.agg (bcs key0).toArray, .bool false] := rfl
theorem atV_some (k : List UInt8) : atV (some k) = .tuple #[.agg (bcs k).toArray, .bool true] := rfl

set_option maxHeartbeats 1000000 in
set_option maxRecDepth 100000 in
theorem ringAwake (w : World) : Calls Try.prog 30 #[] w (RetV w (.bool true)) := by
  have a0 := fun w => ringAt_any key1 K16_1 0 1 w (by decide) (by decide)
  have a1 := fun w => ringAt_any key1 K16_1 1 0 w (by decide) (by decide)
  simp only [at_ex0, atV_none] at a0
  simp only [at_ex1, atV_some] at a1
  have hd : K16 (derK key1 0) := K16_of _ _
  generalize derK key1 0 = dk at *
  have A0 := Lib.hid a0
  have A1 := Lib.hid a1
  clear a0 a1
  go_enter Try.func30, Try.ntmps30
  go_wp2_with (first
    | (refine at_op (.build 53 #[(0, .const (.int .u8 1))]) rfl ?_; refine wpList_build 53 [(0, .const (.int .u8 1))] rfl rfl (.agg (bcs key1).toArray) ?_ ?_; exact run_buildKey1 _)
    | (go_at_call_of 33 (Value.int IntKind.u64 0); refine (ringNew_any key1 K16_1 0 _).mono ?_; rintro e w1 ⟨bs1, d1, rfl, rfl⟩)
    | (go_at_call_of 33 (Value.int IntKind.u64 1); refine (ringNew_any key1 K16_1 1 _).mono ?_; rintro e w1 ⟨bs2, d2, rfl, rfl⟩)
    | (go_at_call_of 106 (Value.int IntKind.i64 1); refine (A0.out _).mono ?_; rintro e w1 ⟨bs3, d3, rfl, rfl⟩)
    | (go_at_call_of 106 (Value.int IntKind.i64 0); refine (A1.out _).mono ?_; rintro e w1 ⟨bs4, d4, rfl, rfl⟩)
    | (refine at_op (.store 53 (.tmp 1) (.tmp 9)) rfl ?_; refine wpList_stA (t := 53) 53 (.tmp 1) (.tmp 9) rfl rfl (bcs key0) (bcs key0) rfl (bcs_one _) rfl rfl ?_ (szKey _ K16_0) ?_; (· refine Bk.newK _ _ _ ?_ rfl; simp [size_plus]); intro w2 hb2 hg2)
    | (refine at_op (.store 53 (.tmp 3) (.tmp 15)) rfl ?_; refine wpList_stA (t := 53) 53 (.tmp 3) (.tmp 15) rfl rfl (bcs dk) (bcs key0) (by rw [bcs_length, show dk.length = 16 from hd]; rfl) (bcs_one _) rfl rfl ?_ (szKey _ hd) ?_; (· refine Bk.newK _ _ _ ?_ rfl; simp [size_plus]); intro w3 hb3 hg3))
  go_ret
  have b2 : Below w.heap.size w w2 := below_grown (by repeat (first | exact Below.refl _ _ | refine belowP ?_ _ _ | refine Below.allocS ?_ _)) hg2 (by omega)
  have z2 := b2.size
  have b3 : Below w.heap.size w w3 := below_grown (by repeat (first | exact b2 | refine belowP ?_ _ _ | refine Below.allocS ?_ _)) hg3 (by omega)
  exact RetV.mk b3

end Go.Proofs.Yticlohlpccollaa
