/- The law OptionClamps (counterfoillaw44): for every input the call returns true, and the arguments read as before. No condition beyond the given row. -/
import Derived.Test.YtknoenceccpkhaaRows
import Derived.Test.YtknoenceccpkhaaZOptionClamps2
namespace Go.Proofs.Ytknoenceccpkhaa.optionClamps
open Go.ChangeShapes Go.WideShapes Go.ChangeAt Go.RowKit
set_option linter.unusedVariables false

theorem own : ownKnob Try.prog.godebug = none := by kernel_rfl
theorem laidOut : laidOutB Try.prog = true := by kernel_rfl

set_option maxRecDepth 100000 in
theorem lifted (os : Go.Os) (started : os.Started) (H : Type) (enc : TypeId × Value → H) :
    ReturnsInHanded {} Try.checked os 3 .any (Rows.optionClampsSpec.pre6 enc Try.prog Try.f3 Rows.optionClampsRow.domain false) (Rows.optionClampsSpec.post enc Try.prog Try.f3 false true false false) := by
  refine lift (C := Try.checked) 4 own started (by kernel_rfl) Try.func3
    (ChangeSpec.witness6 (enc := enc) (C := Try.checked) false ⟨#[], #[.agg #[.int .u16 0, .int .u16 0, .int .u32 0, .int .u32 0, .int .u8 0, .int .u16 0, .int .u16 0, .int .u16 0, .slice none 0 0, .slice none 0 0], .int .u16 0, .agg #[.bool false, .int .u64 0, .int .u64 0], .agg #[.bool false, .int .u64 0, .int .u64 0]], []⟩ 8 (by kernel_rfl) (by kernel_rfl) (by kernel_rfl) (by kernel_rfl))
    laidOut (by kernel_rfl) Try.underlying4 (by kernel_rfl) (by kernel_rfl) rfl (fun ds hds => by match ds, hds with | [d0, d1, d2, d3], _ => exact ⟨rfl, rfl, rfl⟩) ?_
  intro W base args ds ps hval0 hA0
  have hval : ∀ (j : Nat) t v, Try.f3.params[j]? = some t → args[j]? = some v → Value.okWide Try.prog W .any base t v := hval0
  have hA : DataW.TrodAll enc Try.prog W 0 (fun _ => true) true Try.f3.params.toList args.toList ds ps := hA0
  clear hA0 hval0
  rw [Try.params3] at hA hval
  obtain ⟨v0, vs0, d0, ds0, p0, q0, hargs, rfl, rfl, h0, r0⟩ := trodAll_cons hA
  obtain ⟨v1, vs1, d1, ds1, p1, q1, rfl, rfl, rfl, h1, r1⟩ := trodAll_cons r0
  obtain ⟨v2, vs2, d2, ds2, p2, q2, rfl, rfl, rfl, h2, r2⟩ := trodAll_cons r1
  obtain ⟨v3, vs3, d3, ds3, p3, q3, rfl, rfl, rfl, h3, r3⟩ := trodAll_cons r2
  obtain ⟨rfl, rfl, rfl⟩ := trodAll_nil r3
  obtain rfl : args = #[v0, v1, v2, v3] := by cases args; simp_all
  obtain ⟨a0, b0, c0, d0, f0, wi0, sm0, ur0, A0, n0, k0, A20, n20, k20, l0, l20, rfl, ⟨y0, y1, y2, y3, y4, y5, y6, y7⟩, hr0, hs0, hk0, hk20⟩ := open_segN (hval 0 _ v0 rfl rfl) h0
  obtain ⟨a1, rfl, -, -, w1⟩ := open_int Try.underlying22 (hval 1 _ v1 rfl rfl) h1
  obtain ⟨six2, ah2, al2, rfl, p2, q2⟩ := open_adr (hval 2 _ v2 rfl rfl) h2
  obtain ⟨six3, ah3, al3, rfl, p3, q3⟩ := open_adr (hval 3 _ v3 rfl rfl) h3
  exact optionClamps_row W a0 b0 c0 d0 f0 wi0 sm0 ur0 A0 n0 k0 A20 n20 k20 l0 l20 y0 y1 y2 y3 y4 y5 y6 y7 hr0 hs0 hk0 hk20 a1 (bounds_u16 w1) six2 ah2 al2 p2 q2 six3 ah3 al3 p3 q3

theorem over : Rows.optionClampsRow.holds Try.pinned (OpenSpec.ofChange Rows.optionClampsSpec) :=
  OpenClaim.holds_of_wide 3 Try.f3 rfl rfl rfl rfl rfl rfl rfl ⟨rfl, rfl, rfl, rfl, rfl⟩ rfl rfl rfl rfl rfl (by kernel_rfl) Try.func3 (by kernel_rfl)
    (of_decide_eq_true (by kernel_rfl)) (by unfold Func.isWrapper; first | (rw [if_pos (by decide +kernel)]; kernel_rfl) | (rw [if_neg (by decide +kernel)]; exact ⟨rfl, rfl⟩))
    (fun os started H enc _ => lifted os started H enc)

theorem proved : Rows.OptionClampsSaid := over
#print axioms proved
end Go.Proofs.Ytknoenceccpkhaa.optionClamps
