/- The law FollowBytes (counterfoillaw27): for every input the call returns true, and the arguments read as before. No condition beyond the given row. -/
import Derived.Test.YtepodflinhpejaaRows
import Derived.Test.YtepodflinhpejaaZFollowBytes2
namespace Go.Proofs.Ytepodflinhpejaa.followBytes
open Go.ChangeShapes Go.WideShapes Go.ChangeAt Go.RowKit
set_option linter.unusedVariables false

theorem own : ownKnob Try.prog.godebug = none := by kernel_rfl
theorem laidOut : laidOutB Try.prog = true := by kernel_rfl

set_option maxRecDepth 100000 in
theorem lifted (os : Go.Os) (started : os.Started) (H : Type) (enc : TypeId × Value → H) :
    ReturnsInHanded {} Try.checked os 5 .any (Rows.followBytesSpec.pre6 enc Try.prog Try.f5 Rows.followBytesRow.domain false) (Rows.followBytesSpec.post enc Try.prog Try.f5 false true false false) := by
  refine lift (C := Try.checked) 2 own started (by kernel_rfl) Try.func5
    (ChangeSpec.witness6 (enc := enc) (C := Try.checked) false ⟨#[], #[.agg #[.int .i64 0, .int .u64 0, .slice none 0 0], .slice none 0 0], []⟩ 8 (by kernel_rfl) (by kernel_rfl) (by kernel_rfl) (by kernel_rfl))
    laidOut (by kernel_rfl) Try.underlying4 (by kernel_rfl) (by kernel_rfl) rfl (fun ds hds => by match ds, hds with | [d0, d1], _ => exact ⟨rfl, rfl, rfl⟩) ?_
  intro W base args ds ps hval0 hA0
  have hval : ∀ (j : Nat) t v, Try.f5.params[j]? = some t → args[j]? = some v → Value.okWide Try.prog W .any base t v := hval0
  have hA : DataW.TrodAll enc Try.prog W 0 (fun _ => true) true Try.f5.params.toList args.toList ds ps := hA0
  clear hA0 hval0
  rw [Try.params5] at hA hval
  obtain ⟨v0, vs0, d0, ds0, p0, q0, hargs, rfl, rfl, h0, r0⟩ := trodAll_cons hA
  obtain ⟨v1, vs1, d1, ds1, p1, q1, rfl, rfl, rfl, h1, r1⟩ := trodAll_cons r0
  obtain ⟨rfl, rfl, rfl⟩ := trodAll_nil r1
  obtain rfl : args = #[v0, v1] := by cases args; simp_all
  obtain ⟨x0, rfl, hx0⟩ := open_mg (hval 0 _ v0 rfl rfl) h0
  obtain ⟨A1, c1, l1, rfl, hl1, hc1, hr1⟩ := open_bytes Try.underlying29 Try.underlying5 (by kernel_rfl) (hval 1 _ v1 rfl rfl) h1
  exact followBytes_row W x0 hx0 A1 c1 l1 hl1 hc1 hr1

theorem over : Rows.followBytesRow.holds Try.pinned (OpenSpec.ofChange Rows.followBytesSpec) :=
  OpenClaim.holds_of_wide 5 Try.f5 rfl rfl rfl rfl rfl rfl rfl ⟨rfl, rfl, rfl, rfl, rfl⟩ rfl rfl rfl rfl rfl (by kernel_rfl) Try.func5 (by kernel_rfl)
    (of_decide_eq_true (by kernel_rfl)) (by unfold Func.isWrapper; first | (rw [if_pos (by decide +kernel)]; kernel_rfl) | (rw [if_neg (by decide +kernel)]; exact ⟨rfl, rfl⟩))
    (fun os started H enc _ => lifted os started H enc)

theorem proved : Rows.FollowBytesSaid := over
#print axioms proved
end Go.Proofs.Ytepodflinhpejaa.followBytes
