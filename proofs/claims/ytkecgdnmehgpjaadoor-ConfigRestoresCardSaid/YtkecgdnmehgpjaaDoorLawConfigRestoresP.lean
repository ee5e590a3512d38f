/- The law ConfigRestores (counterfoillaw22): for every input the call returns true, and the arguments read as before; math/bits.deBruijn64tab holds what the program's text lays. No condition beyond the given row and its card. -/
import Derived.Test.YtkecgdnmehgpjaaDoorRows
import Derived.Test.YtkecgdnmehgpjaaDoorZConfigRestores6
import Derived.Test.YtkecgdnmehgpjaaDoorCards
import Derived.Test.YtkecgdnmehgpjaaDoorTie
import Derived.SevenTiedAt
namespace Go.Proofs.YtkecgdnmehgpjaaDoor.configRestores
open Go.ChangeShapes Go.WideShapes Go.ChangeAt Go.RowKit
set_option linter.unusedVariables false

theorem own : ownKnob Tryd.prog.godebug = none := by kernel_rfl
theorem laidOut : laidOutB Tryd.prog = true := by kernel_rfl

set_option maxRecDepth 100000 in
theorem lifted (os : Go.Os) (started : os.Started) (H : Type) (enc : TypeId × Value → H) :
    ReturnsInHanded {} Tryd.checked os 3 .any (fun w args => (Rows.configRestoresSpec.pre enc Tryd.prog Tryd.f3 [] false w args ∧ laidMetH Tryd.prog laidTab w) ∧ sizedMet enc Tryd.prog Tryd.f3 (OpenSpec.ofChange Rows.configRestoresSpec) false w args) (Rows.configRestoresSpec.post enc Tryd.prog Tryd.f3 false true false false) := by
  refine liftL (C := Tryd.checked) (X := fun w => laidMetH Tryd.prog laidTab w) 3 (fun _ _ hh h => h.of_heap hh) own started (by kernel_rfl) Tryd.func3
    (ChangeSpec.witness_shaped (enc := enc) (C := Tryd.checked) (os := os) (X := fun w _ => laidMetH Tryd.prog laidTab w) false (World.doorLaid Tryd.prog 2000 os) #[.slice none 0 0, .slice none 0 0, .slice none 0 0] 8 rfl (World.shaped_of_RefB (by kernel_rfl) (by kernel_rfl)) (by kernel_rfl) (by kernel_rfl) (by kernel_rfl) (door_met os _))
    laidOut (by kernel_rfl) Tryd.underlying4 (by kernel_rfl) (by kernel_rfl) rfl (fun ds hds => by match ds, hds with | [d0, d1, d2], _ => exact ⟨rfl, rfl, rfl⟩) ?_
  intro W base args ds ps hval0 hA0 hL
  have hT := of_laid hL
  have hval : ∀ (j : Nat) t v, Tryd.f3.params[j]? = some t → args[j]? = some v → Value.okWide Tryd.prog W .any base t v := hval0
  have hA : DataW.TrodAll enc Tryd.prog W 0 (fun _ => true) true Tryd.f3.params.toList args.toList ds ps := hA0
  clear hA0 hval0 hL
  rw [Tryd.params3] at hA hval
  obtain ⟨v0, vs0, d0, ds0, p0, q0, hargs, rfl, rfl, h0, r0⟩ := trodAll_cons hA
  obtain ⟨v1, vs1, d1, ds1, p1, q1, rfl, rfl, rfl, h1, r1⟩ := trodAll_cons r0
  obtain ⟨v2, vs2, d2, ds2, p2, q2, rfl, rfl, rfl, h2, r2⟩ := trodAll_cons r1
  obtain ⟨rfl, rfl, rfl⟩ := trodAll_nil r2
  obtain rfl : args = #[v0, v1, v2] := by cases args; simp_all
  obtain ⟨A0, c0, l0, rfl, hl0, hc0, hr0, ho0⟩ := open_ops (hval 0 _ v0 rfl rfl) h0
  obtain ⟨A1, c1, l1, rfl, hl1, hc1, hr1, ho1⟩ := open_ops (hval 1 _ v1 rfl rfl) h1
  obtain ⟨A2, c2, l2, rfl, hl2, hc2, hr2, -⟩ := open_prs Tryd.underlying23 Tryd.underlying86 (by kernel_rfl) rfl rfl (by kernel_rfl) (by kernel_rfl) Tryd.underlying3 Tryd.underlying3 (hval 2 _ v2 rfl rfl) h2
  exact configRestores_row W A0 c0 l0 hl0 hc0 hr0 ho0 A1 c1 l1 hl1 hc1 hr1 ho1 A2 c2 l2 hl2 hc2 hr2 hT

theorem over : Rows.configRestoresRow.holds Tryd.pinned (OpenSpec.ofChange Rows.configRestoresSpec) :=
  OpenClaim.holds_of_wide 3 Tryd.f3 rfl rfl rfl rfl rfl rfl rfl ⟨rfl, rfl, rfl, rfl, rfl⟩ rfl rfl rfl rfl rfl (by kernel_rfl) Tryd.func3 (by kernel_rfl)
    (of_decide_eq_true (by kernel_rfl)) (by unfold Func.isWrapper; first | (rw [if_pos (by decide +kernel)]; kernel_rfl) | (rw [if_neg (by decide +kernel)]; exact ⟨rfl, rfl⟩))
    (fun os started H enc _ => lifted os started H enc)

theorem proved : Rows.ConfigRestoresCardSaid :=
  Claim7.holds_tied_plain_at .later [] [.data] true (true, "6596429e876b8890c31702ae5720fd4d7b1b127f9d160b316681f1b898f511c7") false
    over (fun _ h => by cases h) (by kernel_rfl) (fun _ h => by cases h) configRestores_row_tie rfl ⟨rfl, rfl⟩ (by kernel_rfl) rfl
    (fun f fn hf hfn => by
      obtain rfl : f = 3 := Option.some.inj ((show Tryd.prog.funcNamed "counterfoil/counterfoillaw22.ConfigRestores" = some 3 by kernel_rfl).symm.trans hf) |>.symm
      obtain rfl : fn = Tryd.f3 := (Option.some.inj (Tryd.func3.symm.trans hfn)).symm
      exact ⟨by kernel_rfl, fun j t ht => by
        rw [Tryd.params3] at ht
        have hm : t ∈ [22, 22, 23] := by simpa using Array.mem_of_getElem? ht
        have hall : ([22, 22, 23].all fun u => !Tryd.prog.wantsStandIn u) = true := by kernel_rfl
        exact (show Tryd.prog.wantsStandIn t = false by simpa using List.all_eq_true.1 hall t hm)⟩)
    (by kernel_rfl)
#print axioms proved
end Go.Proofs.YtkecgdnmehgpjaaDoor.configRestores
