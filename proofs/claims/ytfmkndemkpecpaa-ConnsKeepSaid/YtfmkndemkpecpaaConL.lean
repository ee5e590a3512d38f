/- ConnsKeep's row. -/
import Derived.Test.YtfmkndemkpecpaaConK
import Derived.Test.YtfmkndemkpecpaaConO
namespace Go.Proofs.Ytfmkndemkpecpaa
open Go.RowKit
set_option linter.unusedVariables false

theorem connsKeep_row (w : World) (a : Int) (ha : 0 ≤ a ∧ a ≤ 255) (f : Fw) (b : Int) (hb : 0 ≤ b ∧ b ≤ 65535) (A : Option Addr) (c : Nat) (L : List Fw) (hl : L.length ≤ c) (hc : c ≤ maxLen) (hr : Rd w w.heap.size A (L.flatMap Fw.c)) :
    Calls Try.prog 10 #[.int .u8 a, f.v, .int .u16 b, .slice A L.length c] w fun e w' => e = .returned (.bool true) ∧ Below w.heap.size w w' := by
  obtain ⟨a, rfl⟩ := Int.eq_ofNat_of_zero_le ha.1
  obtain ⟨b, rfl⟩ := Int.eq_ofNat_of_zero_le hb.1
  simp only [maxLen] at hc
  refine (connsKeep_walk w a (by omega) f b A L.length c L ⟨flat_len Fw.c 9 Fw.c_len L, hl, hr⟩ (by omega)).mono ?_
  rintro e w1 ⟨bs, d, rfl, rfl⟩
  exact ⟨rfl, below_plus _ _ _⟩
end Go.Proofs.Ytfmkndemkpecpaa
