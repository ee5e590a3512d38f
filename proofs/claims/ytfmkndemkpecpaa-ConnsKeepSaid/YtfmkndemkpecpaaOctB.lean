/- More of the readers: Bytes, Bad, Left, Rest, in any world. -/
import Derived.Test.YtfmkndemkpecpaaOctK
import Derived.Test.YtfmkndemkpecpaaAgg
namespace Go.Proofs.Ytfmkndemkpecpaa
open Go.RowKit
set_option linter.unusedVariables false
attribute [local go_sem ↓] sliced_cut
attribute [local go_sem] cutA_zero

/-- new bytes, the reader moved on -/
def RetGB (w : World) (r : Nat) (l o : List UInt8) (e : Ending) (w' : World) : Prop := ∃ A n c, e = .returned (.slice A n c) ∧ Ob w' w.heap.size A n c o ∧ Rdr w' r l false ∧ w.grownBy w' (some r)
theorem Rd.rb {w : World} {B n c : Nat} {A : Option Addr} {l : List UInt8} (h : Rd w B A (bcs l)) (hB : B ≤ w.heap.size) (hl : l.length = n) (hc : n ≤ c) : Rb w A n c l := ⟨hl, hc, h.more hB⟩
theorem bytesG (w : World) (r : Nat) (L : List UInt8) (k n : Nat) (h : Rdr w r (L.drop k) false) (hm : L.length ≤ 549755813888) (hn : k + n ≤ L.length) : Calls Try.prog 167 #[.pointer (some ⟨r, 0, none⟩), .int .i64 n] w (RetGB w r (L.drop (k + n)) ((L.drop k).take n)) := by
  go_enter Try.func167, Try.ntmps167
  go_wp2_with fail
  refine (next_any r (L.drop k) false n _ h (by rw [List.length_drop]; omega) (by rw [List.length_drop]; omega)).mono ?_
  rintro e w1 ⟨A, c, rfl, hc, hrd, hrr, hg⟩
  go_wp2_with fail
  refine (clone_any _ _ _ ((L.drop k).take n) _ (hrd.rb (Nat.le_of_lt hrr.lt) (by rw [List.length_take, List.length_drop]; omega) hc) (by omega)).mono ?_
  rintro e w2 ⟨A2, n2, c2, bs2, d2, rfl, rfl, ho2⟩
  go_wp2
  go_ret
  rw [List.drop_drop] at hrr
  exact ⟨A2, n2, c2, rfl, ho2.mono hg.size, hrr.later (below_plus _ _ _), hg.trans (grownBy_of_below (below_plus _ _ _) |> fun h => ⟨h.os, h.tape, h.output, h.size, fun i hi hne => h.block i hi (by simp)⟩)⟩
end Go.Proofs.Ytfmkndemkpecpaa
