/- A segment that came in. -/
import Derived.Test.YticlohlpccollaaTcpY
namespace Go.Proofs.Yticlohlpccollaa
open Go.RowKit Go.ChangeShapes Go.WideShapes
set_option linter.unusedVariables false

set_option maxRecDepth 100000 in
theorem open_segN {H : Type} {enc : TypeId × Value → H} {W : World} {base : Nat} {v : Value} {dt : DataW H} {p : List MemPlace} (hv : Value.okWide Try.prog W .any base 31 v) (h : DataW.Trod enc Try.prog W 0 (fun _ => true) true 31 v dt p) :
    ∃ a b c d f wi sm ur : Nat, ∃ A n k A' n' k', ∃ l l' : List UInt8, v = .agg (segC a b c d f wi sm ur A n k A' n' k').toArray ∧ (a < 65536 ∧ b < 65536 ∧ c < 4294967296 ∧ d < 4294967296 ∧ f < 256 ∧ wi < 65536 ∧ sm < 65536 ∧ ur < 65536) ∧ Rb W A n k l ∧ Rb W A' n' k' l' ∧ k ≤ maxLen ∧ k' ≤ maxLen := by
  obtain ⟨cs, rfl, hl, m, hf⟩ := open_struct Try.underlying31 (by kernel_rfl) (by kernel_rfl) hv h
  obtain ⟨u0, u1, u2, u3, u4, u5, u6, u7, u8, u9, rfl⟩ := list10 hl
  obtain ⟨_, _, e0, t0⟩ := hf 0 _ rfl
  obtain ⟨_, _, e1, t1⟩ := hf 1 _ rfl
  obtain ⟨_, _, e2, t2⟩ := hf 2 _ rfl
  obtain ⟨_, _, e3, t3⟩ := hf 3 _ rfl
  obtain ⟨_, _, e4, t4⟩ := hf 4 _ rfl
  obtain ⟨_, _, e5, t5⟩ := hf 5 _ rfl
  obtain ⟨_, _, e6, t6⟩ := hf 6 _ rfl
  obtain ⟨_, _, e7, t7⟩ := hf 7 _ rfl
  obtain ⟨_, _, e8, t8⟩ := hf 8 _ rfl
  obtain ⟨_, _, e9, t9⟩ := hf 9 _ rfl
  simp only [List.getElem?_cons_zero, List.getElem?_cons_succ, Option.some.injEq] at e0 e1 e2 e3 e4 e5 e6 e7 e8 e9
  subst e0 e1 e2 e3 e4 e5 e6 e7 e8 e9
  obtain ⟨a, x0, -, w0⟩ := DataW.trod_int Try.underlying24 t0
  have v0 := bounds_u16 w0
  obtain ⟨b, x1, -, w1⟩ := DataW.trod_int Try.underlying24 t1
  have v1 := bounds_u16 w1
  obtain ⟨c, x2, -, w2⟩ := DataW.trod_int Try.underlying25 t2
  have v2 := bounds_u32 w2
  obtain ⟨d, x3, -, w3⟩ := DataW.trod_int Try.underlying25 t3
  have v3 := bounds_u32 w3
  obtain ⟨f, x4, -, w4⟩ := DataW.trod_int Try.underlying5 t4
  have v4 := bounds_u8 w4
  obtain ⟨wi, x5, -, w5⟩ := DataW.trod_int Try.underlying24 t5
  have v5 := bounds_u16 w5
  obtain ⟨sm, x6, -, w6⟩ := DataW.trod_int Try.underlying24 t6
  have v6 := bounds_u16 w6
  obtain ⟨ur, x7, -, w7⟩ := DataW.trod_int Try.underlying24 t7
  have v7 := bounds_u16 w7
  obtain ⟨A, n, k, l, x8, hk, hr⟩ := open_bytes_cell Try.underlying22 Try.underlying5 (by kernel_rfl) t8
  obtain ⟨A', n', k', l', x9, hk', hr'⟩ := open_bytes_cell Try.underlying22 Try.underlying5 (by kernel_rfl) t9
  simp only [List.cons.injEq, and_true] at x0 x1 x2 x3 x4 x5 x6 x7
  subst x0 x1 x2 x3 x4 x5 x6 x7 x8 x9
  refine ⟨a.toNat, b.toNat, c.toNat, d.toNat, f.toNat, wi.toNat, sm.toNat, ur.toNat, A, n, k, A', n', k', l, l', ?_, by omega, hr, hr', hk, hk'⟩
  unfold segC
  rw [Int.toNat_of_nonneg (by omega), Int.toNat_of_nonneg (by omega), Int.toNat_of_nonneg (by omega), Int.toNat_of_nonneg (by omega), Int.toNat_of_nonneg (by omega), Int.toNat_of_nonneg (by omega), Int.toNat_of_nonneg (by omega), Int.toNat_of_nonneg (by omega)]
end Go.Proofs.Yticlohlpccollaa
