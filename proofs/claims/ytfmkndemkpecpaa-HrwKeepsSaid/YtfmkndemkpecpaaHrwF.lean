/- HrwKeeps' row. -/
import Derived.Test.YtfmkndemkpecpaaHrwE
import Derived.Test.YtfmkndemkpecpaaRowO
namespace Go.Proofs.Ytfmkndemkpecpaa
open Go.RowKit
set_option linter.unusedVariables false

theorem hrwKeeps_row (w : World) (key : List UInt8) (hk : K16 key) (A0 : Option Addr) (c0 : Nat) (L : List (Int × Int)) (hl : L.length ≤ c0) (hc : c0 ≤ maxLen) (hr : Rd w w.heap.size A0 (prs .i64 L)) (hw : ∀ q ∈ L, (Lit.int .i64 q.1).wf = true ∧ (Lit.int .i64 q.2).wf = true)
    (a : Int) (ha : 0 ≤ a ∧ a ≤ 255) (A : Option Addr) (c : Nat) (l : List UInt8) (hl2 : l.length ≤ c) (hc2 : c ≤ maxLen) (hr2 : Rd w w.heap.size A (bcs l)) :
    Calls Try.prog 8 #[.agg (bcs key).toArray, .slice A0 L.length c0, .int .u8 a, .slice A l.length c] w fun e w' => e = .returned (.bool true) ∧ Below w.heap.size w w' := by
  obtain ⟨a, rfl⟩ := Int.eq_ofNat_of_zero_le ha.1
  simp only [maxLen] at hc hc2
  refine (hrwKeeps_walk key hk L (fun q hq => ?_) A0 L.length c0 a (by omega) A l.length c l w ⟨prs_length _ _, hl, hr⟩ (by omega) ⟨rfl, hl2, hr2⟩ (by omega)).mono ?_
  · have h1 := bounds_i64 (hw q hq).1
    have h2 := bounds_i64 (hw q hq).2
    exact ⟨h1, h2⟩
  · rintro e w1 ⟨bs, d, rfl, rfl⟩
    exact ⟨rfl, below_plus _ _ _⟩
end Go.Proofs.Ytfmkndemkpecpaa
