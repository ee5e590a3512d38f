/- The law Ip6Writes (chapter 5). -/
import Derived.Test.YtfmkndemkpecpaaIp6C

namespace Go.Proofs.Ytfmkndemkpecpaa
open Go.RowKit
set_option linter.unusedVariables false
set_option linter.unusedSimpArgs false
attribute [local go_sem ↓] sliced_cut
attribute [local go_sem] cutA_zero

theorem szR6 (cl lb : Nat) (ln : Int) (nx ht : Nat) (s6 : Bool) (sh sl : Nat) (d6 : Bool) (dh dl : Nat) : (Try.prog.info? 180).map (·.size) = some (h6C cl lb ln nx ht s6 sh sl d6 dh dl).length := by kernel_rfl
theorem rowR6 : ∃ d, Try.prog.underlying 180 = some d ∧ d.isRow = true := ⟨_, Try.underlying180, rfl⟩
/-- what ip6.Older of a written packet gives: as many bytes, the eighth one less -/
def RetO (w : World) (n x : Nat) (e : Ending) (w' : World) : Prop := ∃ g c, e = .returned (.tuple #[.slice (some ⟨g, 0, none⟩) n c, .int .i64 0]) ∧ Below w.heap.size w w' ∧ w'.cell? ⟨g, 7, none⟩ = some (.int .u8 (x : Int))
set_option maxRecDepth 100000 in
theorem eq_h6 (w : World) (cl lb : Nat) (ln : Int) (nx ht : Nat) (s6 : Bool) (sh sl : Nat) (d6 : Bool) (dh dl : Nat) : (binOp .eql 171 (.agg (h6C cl lb ln nx ht s6 sh sl d6 dh dl).toArray) (.agg (h6C cl lb ln nx ht s6 sh sl d6 dh dl).toArray)).run Try.prog w = .ok (.bool true) w := by
  unfold h6C
  go_simp
attribute [local go_sem ↓] eq_h6
end Go.Proofs.Ytfmkndemkpecpaa
