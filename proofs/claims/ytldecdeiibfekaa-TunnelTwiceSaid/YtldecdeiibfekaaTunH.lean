/- The law TunnelTwice: what Wrap gives is opened again. -/
import Derived.Test.YtldecdeiibfekaaTunF
namespace Go.Proofs.Ytldecdeiibfekaa
open Go.RowKit
set_option linter.unusedVariables false
set_option linter.unusedSimpArgs false
attribute [local go_sem ↓] sliced_cut
attribute [local go_sem] cutA_zero

/-- may an address be? -/
def adOK (six : Bool) (h l : Nat) : Bool := six || (decide (h = 0) && decide (l < 4294967296))
theorem refAdrRight (six : Bool) (h l : Nat) (w : World) (hl : l < 18446744073709551616) : Calls Try.prog 15 #[.agg (adC six h l).toArray] w (RetV w (.bool (adOK six h l))) := by
  unfold adC
  cases six
  · by_cases h0 : h = 0
    · subst h0
      by_cases h1 : l < 4294967296
      · have t1 : decide (l ≤ 4294967295) = true := by simp; omega
        have hz : Hid (adOK false 0 l = true) := Lib.hid (by simp [adOK]; omega)
        go_enter Try.func15, Try.ntmps15
        go_wp2
        go_ret
        exact RetV.is_ (by rw [hz.out]; simp; try omega) (Below.allocS (Below.refl _ _) _)
      · have t1 : decide (l ≤ 4294967295) = false := by simp; omega
        have hz : Hid (adOK false 0 l = false) := Lib.hid (by simp [adOK]; omega)
        go_enter Try.func15, Try.ntmps15
        go_wp2
        go_ret
        exact RetV.is_ (by rw [hz.out]; simp; try omega) (Below.allocS (Below.refl _ _) _)
    · have e1 : ((h : Int) == 0) = false := by rw [beq_eq_false_iff_ne]; omega
      have hz : Hid (adOK false h l = false) := Lib.hid (by simp [adOK]; omega)
      clear h0
      go_enter Try.func15, Try.ntmps15
      go_wp2
      go_ret
      exact RetV.is_ (by rw [hz.out]; rfl) (Below.allocS (Below.refl _ _) _)
  · go_enter Try.func15, Try.ntmps15
    go_wp2
    go_ret
    exact RetV.is_ rfl (Below.allocS (Below.refl _ _) _)
set_option maxHeartbeats 4000000 in
set_option maxRecDepth 100000 in
theorem refEnds (s6 : Bool) (sh sl : Nat) (d6 : Bool) (dh dl tl : Nat) (w : World) (k2 : sl < 18446744073709551616) (k4 : dl < 18446744073709551616) : Calls Try.prog 77 #[.agg (wyC s6 sh sl d6 dh dl tl).toArray] w (RetV w (.bool (adOK s6 sh sl && adOK d6 dh dl))) := by
  obtain ⟨dv, v1, v2⟩ : ∃ d, Try.prog.underlying 29 = some d ∧ d.isRow = true := ⟨_, Try.underlying29, rfl⟩
  have b1 : Bk (w.alloc (.cells (wyC s6 sh sl d6 dh dl tl).toArray 129)) w.heap.size 129 (wyC s6 sh sl d6 dh dl tl) := Bk.new w 129 (wyC s6 sh sl d6 dh dl tl).toArray
  have be : Below w.heap.size w (w.alloc (.cells (wyC s6 sh sl d6 dh dl tl).toArray 129)) := Below.allocS (Below.refl _ _) _
  have H1 := Lib.hid (fun w => refAdrRight s6 sh sl w k2)
  have H2 := Lib.hid (fun w => refAdrRight d6 dh dl w k4)
  generalize adOK s6 sh sl = x1 at *
  generalize adOK d6 dh dl = x2 at *
  cases x1
  · go_enter Try.func77, Try.ntmps77
    go_upto_region 1 with (fail)
    generalize w.alloc (.cells (wyC s6 sh sl d6 dh dl tl).toArray 129) = V at *
    go_wp2_with (first
      | (refine at_op (.load 29 (.tmp 3)) rfl ?_; refine wpList_ldG (t := 129) (cs := wyC s6 sh sl d6 dh dl tl) 29 (.tmp 3) rfl (by go_simp) (adC s6 sh sl) rfl (by with_reducible repeat (first | exact b1 | refine Bk.later ?_ (below_plus _ _ _) | refine Bk.alloc ?_ _)) rfl v1 v2 (szAd _ _ _) ?_)
      | (go_at_call 15; (with_reducible refine (H1.out _).mono ?_); rintro e w1 ⟨bs1, d1, rfl, rfl⟩))
    go_ret
    exact RetV.is_ rfl (belowP be _ _)
  · go_enter Try.func77, Try.ntmps77
    go_upto_region 1 with (fail)
    generalize w.alloc (.cells (wyC s6 sh sl d6 dh dl tl).toArray 129) = V at *
    go_wp2_with (first
      | (refine at_op (.load 29 (.tmp 3)) rfl ?_; refine wpList_ldG (t := 129) (cs := wyC s6 sh sl d6 dh dl tl) 29 (.tmp 3) rfl (by go_simp) (adC s6 sh sl) rfl (by with_reducible repeat (first | exact b1 | refine Bk.later ?_ (below_plus _ _ _) | refine Bk.alloc ?_ _)) rfl v1 v2 (szAd _ _ _) ?_)
      | (refine at_op (.load 29 (.tmp 7)) rfl ?_; refine wpList_ldG (t := 129) (cs := wyC s6 sh sl d6 dh dl tl) 29 (.tmp 7) rfl (by go_simp) (adC d6 dh dl) rfl (by with_reducible repeat (first | exact b1 | refine Bk.later ?_ (below_plus _ _ _) | refine Bk.alloc ?_ _)) rfl v1 v2 (szAd _ _ _) ?_)
      | (go_at_call 15; (with_reducible refine (H1.out _).mono ?_); rintro e w1 ⟨bs1, d1, rfl, rfl⟩)
      | (go_at_call 15; (with_reducible refine (H2.out _).mono ?_); rintro e w1 ⟨bs2, d2, rfl, rfl⟩))
    go_ret
    exact RetV.is_ (by simp) (belowP (belowP be _ _) _ _)
set_option maxRecDepth 100000 in
theorem refWayRight (s6 : Bool) (sh sl : Nat) (d6 : Bool) (dh dl tl : Nat) (w : World) : Calls Try.prog 78 #[.agg (wyC s6 sh sl d6 dh dl tl).toArray] w (RetV w (.bool (s6 == d6 && decide (0 < tl)))) := by
  unfold wyC
  by_cases ht : tl = 0
  · subst ht
    go_enter Try.func78, Try.ntmps78
    cases s6 <;> cases d6 <;> go_wp2 <;> go_ret <;> exact RetV.is_ (by simp) (Below.allocS (Below.refl _ _) _)
  · have hd : ((tl : Int) != 0) = true := by rw [bne_iff_ne]; omega
    have hz : decide (0 < tl) = true := by simp only [decide_eq_true_eq]; omega
    rw [hz]
    clear ht
    go_enter Try.func78, Try.ntmps78
    cases s6 <;> cases d6 <;> go_wp2 <;> go_ret <;> exact RetV.is_ (by simp) (Below.allocS (Below.refl _ _) _)
end Go.Proofs.Ytldecdeiibfekaa
