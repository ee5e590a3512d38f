/- The law CodecGoes (counterfoillaw23): for every input the call returns true, and the arguments read as before; math/bits.deBruijn64tab holds what the program's text lays. No condition beyond the given row and its card. -/
import Derived.Test.YtclhfbbajeoanaaDoorRows
import Derived.Test.YtclhfbbajeoanaaDoorZCodecGoes7
import Derived.Test.YtclhfbbajeoanaaDoorCards
import Derived.Test.YtclhfbbajeoanaaDoorTie
import Derived.SevenTiedAt
namespace Go.Proofs.YtclhfbbajeoanaaDoor.codecGoes
open Go.ChangeShapes Go.WideShapes Go.ChangeAt Go.RowKit
set_option linter.unusedVariables false

theorem own : ownKnob Tryd.prog.godebug = none := by kernel_rfl
theorem laidOut : laidOutB Tryd.prog = true := by kernel_rfl

set_option maxRecDepth 100000 in
theorem lifted (os : Go.Os) (started : os.Started) (H : Type) (enc : TypeId × Value → H) :
    ReturnsInHanded {} Tryd.checked os 4 .any (fun w args => (Rows.codecGoesSpec.pre enc Tryd.prog Tryd.f4 [] false w args ∧ laidMetH Tryd.prog laidTab w) ∧ sizedMet enc Tryd.prog Tryd.f4 (OpenSpec.ofChange Rows.codecGoesSpec) false w args) (Rows.codecGoesSpec.post enc Tryd.prog Tryd.f4 false true false false) := by
  refine liftL (C := Tryd.checked) (X := fun w => laidMetH Tryd.prog laidTab w) 2 (fun _ _ hh h => h.of_heap hh) own started (by kernel_rfl) Tryd.func4
    (ChangeSpec.witness_shaped (enc := enc) (C := Tryd.checked) (os := os) (X := fun w _ => laidMetH Tryd.prog laidTab w) false (World.doorLaid Tryd.prog 2000 os) #[.slice none 0 0, .slice none 0 0] 8 rfl (World.shaped_of_RefB (by kernel_rfl) (by kernel_rfl)) (by kernel_rfl) (by kernel_rfl) (by kernel_rfl) (door_met os _))
    laidOut (by kernel_rfl) Tryd.underlying4 (by kernel_rfl) (by kernel_rfl) rfl (fun ds hds => by match ds, hds with | [d0, d1], _ => exact ⟨rfl, rfl, rfl⟩) ?_
  intro W base args ds ps hval0 hA0 hL
  have hT := of_laid hL
  have hval : ∀ (j : Nat) t v, Tryd.f4.params[j]? = some t → args[j]? = some v → Value.okWide Tryd.prog W .any base t v := hval0
  have hA : DataW.TrodAll enc Tryd.prog W 0 (fun _ => true) true Tryd.f4.params.toList args.toList ds ps := hA0
  clear hA0 hval0 hL
  rw [Tryd.params4] at hA hval
  obtain ⟨v0, vs0, d0, ds0, p0, q0, hargs, rfl, rfl, h0, r0⟩ := trodAll_cons hA
  obtain ⟨v1, vs1, d1, ds1, p1, q1, rfl, rfl, rfl, h1, r1⟩ := trodAll_cons r0
  obtain ⟨rfl, rfl, rfl⟩ := trodAll_nil r1
  obtain rfl : args = #[v0, v1] := by cases args; simp_all
  obtain ⟨A0, c0, l0, rfl, hl0, hc0, hr0, ho0⟩ := open_ops (hval 0 _ v0 rfl rfl) h0
  obtain ⟨A1, c1, l1, rfl, hl1, hc1, hr1, ho1⟩ := open_ops (hval 1 _ v1 rfl rfl) h1
  exact codecGoes_row W A0 c0 l0 hl0 hc0 hr0 ho0 A1 c1 l1 hl1 hc1 hr1 ho1 hT

theorem over : Rows.codecGoesRow.holds Tryd.pinned (OpenSpec.ofChange Rows.codecGoesSpec) :=
  OpenClaim.holds_of_wide 4 Tryd.f4 rfl rfl rfl rfl rfl rfl rfl ⟨rfl, rfl, rfl, rfl, rfl⟩ rfl rfl rfl rfl rfl (by kernel_rfl) Tryd.func4 (by kernel_rfl)
    (of_decide_eq_true (by kernel_rfl)) (by unfold Func.isWrapper; first | (rw [if_pos (by decide +kernel)]; kernel_rfl) | (rw [if_neg (by decide +kernel)]; exact ⟨rfl, rfl⟩))
    (fun os started H enc _ => lifted os started H enc)

theorem proved : Rows.CodecGoesCardSaid :=
  Claim7.holds_tied_plain_at .later [] [.data] true (true, "dd603607582f69ddc815f90b6459eaf00e556134f6562598a20f936b5e935a0c") false
    over (fun _ h => by cases h) (by kernel_rfl) (fun _ h => by cases h) codecGoes_row_tie rfl ⟨rfl, rfl⟩ (by kernel_rfl) rfl
    (fun f fn hf hfn => by
      obtain rfl : f = 4 := Option.some.inj ((show Tryd.prog.funcNamed "counterfoil/counterfoillaw23.CodecGoes" = some 4 by kernel_rfl).symm.trans hf) |>.symm
      obtain rfl : fn = Tryd.f4 := (Option.some.inj (Tryd.func4.symm.trans hfn)).symm
      exact ⟨by kernel_rfl, fun j t ht => by
        rw [Tryd.params4] at ht
        have hm : t ∈ [22, 22] := by simpa using Array.mem_of_getElem? ht
        have hall : ([22, 22].all fun u => !Tryd.prog.wantsStandIn u) = true := by kernel_rfl
        exact (show Tryd.prog.wantsStandIn t = false by simpa using List.all_eq_true.1 hall t hm)⟩)
    (by kernel_rfl)
#print axioms proved
end Go.Proofs.YtclhfbbajeoanaaDoor.codecGoes
