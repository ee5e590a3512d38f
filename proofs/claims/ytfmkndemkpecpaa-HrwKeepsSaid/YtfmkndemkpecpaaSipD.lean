/- siphash.Derive and its reference. -/
import Derived.Test.YtfmkndemkpecpaaSipO
import Derived.Test.YtfmkndemkpecpaaRel
import Derived.Stop.BytesEq
namespace Go.Proofs.Ytfmkndemkpecpaa
open Go.RowKit
set_option linter.unusedVariables false
set_option linter.unusedSimpArgs false
attribute [local go_sem ↓] sliced_cut
attribute [local go_sem] cutA_zero

noncomputable def derK (key : List UInt8) (use : Nat) : List UInt8 := ofK (sip key ([1] ++ dig use 8)).toNat (sip key ([2] ++ dig use 8)).toNat

theorem szU8 (w : World) : (sizeOf 5).run Try.prog w = .ok 1 w := by
  obtain ⟨i, hi, hz0, hz1, hz2⟩ := info_parts bt.info
  simp [sizeOf, typeInfo, hi, hz1]
theorem eql_key (w : World) (a b : List UInt8) (ha : K16 a) (hb : K16 b) : (binOp .eql 192 (.agg (bcs a).toArray) (.agg (bcs b).toArray)).run Try.prog w = .ok (.bool (a == b)) w :=
  run_eql_bytes w 192 5 16 Try.underlying192 Try.underlying5 szU8 a b ha hb
theorem eql_key' (w : World) (a b : List UInt8) (ha : K16 a) (hb : K16 b) : (binOp .eql 74 (.agg (bcs a).toArray) (.agg (bcs b).toArray)).run Try.prog w = .ok (.bool (a == b)) w :=
  run_eql_bytes w 74 5 16 Try.underlying74 Try.underlying5 szU8 a b ha hb
attribute [local go_sem ↓] eql_key eql_key'
end Go.Proofs.Ytfmkndemkpecpaa
