/- The law HrwRanks (counterfoillaw16): for every input the call returns true, and the arguments read as before. No condition beyond the given row. -/
import Derived.Test.YtknoenceccpkhaaRows
import Derived.Test.YtknoenceccpkhaaZHrwRanks4
namespace Go.Proofs.Ytknoenceccpkhaa.hrwRanks
open Go.ChangeShapes Go.WideShapes Go.ChangeAt Go.RowKit
set_option linter.unusedVariables false

theorem own : ownKnob Try.prog.godebug = none := by kernel_rfl
theorem laidOut : laidOutB Try.prog = true := by kernel_rfl

set_option maxRecDepth 100000 in
theorem lifted (os : Go.Os) (started : os.Started) (H : Type) (enc : TypeId × Value → H) :
    ReturnsInHanded {} Try.checked os 6 .any (Rows.hrwRanksSpec.pre6 enc Try.prog Try.f6 Rows.hrwRanksRow.domain false) (Rows.hrwRanksSpec.post enc Try.prog Try.f6 false true false false) := by
  refine lift (C := Try.checked) 3 own started (by kernel_rfl) Try.func6
    (ChangeSpec.witness6 (enc := enc) (C := Try.checked) false ⟨#[], #[.agg #[.int .u8 0, .int .u8 0, .int .u8 0, .int .u8 0, .int .u8 0, .int .u8 0, .int .u8 0, .int .u8 0, .int .u8 0, .int .u8 0, .int .u8 0, .int .u8 0, .int .u8 0, .int .u8 0, .int .u8 0, .int .u8 0], .slice none 0 0, .slice none 0 0], []⟩ 8 (by kernel_rfl) (by kernel_rfl) (by kernel_rfl) (by kernel_rfl))
    laidOut (by kernel_rfl) Try.underlying4 (by kernel_rfl) (by kernel_rfl) rfl (fun ds hds => by match ds, hds with | [d0, d1, d2], _ => exact ⟨rfl, rfl, rfl⟩) ?_
  intro W base args ds ps hval0 hA0
  have hval : ∀ (j : Nat) t v, Try.f6.params[j]? = some t → args[j]? = some v → Value.okWide Try.prog W .any base t v := hval0
  have hA : DataW.TrodAll enc Try.prog W 0 (fun _ => true) true Try.f6.params.toList args.toList ds ps := hA0
  clear hA0 hval0
  rw [Try.params6] at hA hval
  obtain ⟨v0, vs0, d0, ds0, p0, q0, hargs, rfl, rfl, h0, r0⟩ := trodAll_cons hA
  obtain ⟨v1, vs1, d1, ds1, p1, q1, rfl, rfl, rfl, h1, r1⟩ := trodAll_cons r0
  obtain ⟨v2, vs2, d2, ds2, p2, q2, rfl, rfl, rfl, h2, r2⟩ := trodAll_cons r1
  obtain ⟨rfl, rfl, rfl⟩ := trodAll_nil r2
  obtain rfl : args = #[v0, v1, v2] := by cases args; simp_all
  obtain ⟨k0, rfl, hk0⟩ := open_key (hval 0 _ v0 rfl rfl) h0
  obtain ⟨A1, c1, L1, rfl, hl1, hc1, hr1, hw1⟩ := open_prs Try.underlying88 Try.underlying98 (by kernel_rfl) rfl rfl (by kernel_rfl) (by kernel_rfl) Try.underlying3 Try.underlying3 (hval 1 _ v1 rfl rfl) h1
  obtain ⟨A2, c2, l2, rfl, hl2, hc2, hr2⟩ := open_bytes Try.underlying24 Try.underlying5 (by kernel_rfl) (hval 2 _ v2 rfl rfl) h2
  exact hrwRanks_row W k0 hk0 A1 c1 L1 hl1 hc1 hr1 hw1 A2 c2 l2 hl2 hc2 hr2

theorem over : Rows.hrwRanksRow.holds Try.pinned (OpenSpec.ofChange Rows.hrwRanksSpec) :=
  OpenClaim.holds_of_wide 6 Try.f6 rfl rfl rfl rfl rfl rfl rfl ⟨rfl, rfl, rfl, rfl, rfl⟩ rfl rfl rfl rfl rfl (by kernel_rfl) Try.func6 (by kernel_rfl)
    (of_decide_eq_true (by kernel_rfl)) (by unfold Func.isWrapper; first | (rw [if_pos (by decide +kernel)]; kernel_rfl) | (rw [if_neg (by decide +kernel)]; exact ⟨rfl, rfl⟩))
    (fun os started H enc _ => lifted os started H enc)

theorem proved : Rows.HrwRanksSaid := over
#print axioms proved
end Go.Proofs.Ytknoenceccpkhaa.hrwRanks
