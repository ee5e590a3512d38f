/- Headers of IPv4: the reference's Right. -/
import Derived.Test.YtfmkndemkpecpaaIp4B
namespace Go.Proofs.Ytfmkndemkpecpaa
open Go.RowKit
set_option linter.unusedVariables false
set_option linter.unusedSimpArgs false
attribute [local go_sem ↓] sliced_cut
attribute [local go_sem] cutA_zero

set_option maxHeartbeats 4000000 in
set_option maxRecDepth 100000 in
theorem refRight4 (ts : Nat) (ln : Int) (id : Nat) (st mo : Bool) (fo : Int) (tl pr sm : Nat) (s6 : Bool) (sh sl : Nat) (d6 : Bool) (dh dl : Nat) (A : Option Addr) (n k : Nat) (w : World) (hn : n ≤ 1000000) (hi : -9223372036854775808 ≤ ln ∧ ln ≤ 9223372036854775807) (hf : -9223372036854775808 ≤ fo ∧ fo ≤ 9223372036854775807) (k1 : sh < 18446744073709551616) (k2 : sl < 18446744073709551616) (k3 : dh < 18446744073709551616) (k4 : dl < 18446744073709551616) : Calls Try.prog 132 #[.agg (h4C ts ln id st mo fo tl pr sm s6 sh sl d6 dh dl A n k).toArray] w (RetV w (.bool (r4 n ln fo s6 sh sl d6 dh dl))) := by
  have HA1 := Lib.hid (fun w => refAdrRightF sh sl w k1 k2)
  have HA2 := Lib.hid (fun w => refAdrRightF dh dl w k3 k4)
  obtain ⟨z, hz0⟩ : ∃ z : Nat, z = 20 + n := ⟨_, rfl⟩
  unfold h4C
  by_cases c0 : n ≤ 40
  · skip
    have t00 := Lib.hid (show decide (n ≤ 40) = true from by simp only [decide_eq_true_eq, decide_eq_false_iff_not]; omega)
    have t01 := Lib.hid (show decide (40 < n) = false from by simp only [decide_eq_true_eq, decide_eq_false_iff_not]; omega)
    have t02 := Lib.hid (show decide ((n : Int) ≤ 40) = true from by simp only [decide_eq_true_eq, decide_eq_false_iff_not]; omega)
    have t03 := Lib.hid (show decide (40 < (n : Int)) = false from by simp only [decide_eq_true_eq, decide_eq_false_iff_not]; omega)
    by_cases c1 : n % 4 = 0
    · skip
      have t10 := Lib.hid (show ((n : Int) % 4 == 0) = true from by rw [beq_iff_eq]; omega)
      have t19 := Lib.hid (show ((n : Int) % 4 != 0) = false from by rw [bne_eq_false_iff_eq]; omega)
      by_cases c2 : 20 + (n : Int) ≤ ln
      · skip
        have t20 := Lib.hid (show decide (20 + (n : Int) ≤ ln) = true from by simp only [decide_eq_true_eq, decide_eq_false_iff_not]; omega)
        have t21 := Lib.hid (show decide (ln < 20 + (n : Int)) = false from by simp only [decide_eq_true_eq, decide_eq_false_iff_not]; omega)
        have t22 := Lib.hid (show decide ((z : Int) ≤ ln) = true from by simp only [decide_eq_true_eq, decide_eq_false_iff_not]; omega)
        by_cases c3 : ln ≤ 65535
        · skip
          have t30 := Lib.hid (show decide (ln ≤ 65535) = true from by simp only [decide_eq_true_eq, decide_eq_false_iff_not]; omega)
          have t31 := Lib.hid (show decide (65535 < ln) = false from by simp only [decide_eq_true_eq, decide_eq_false_iff_not]; omega)
          by_cases c4 : 0 ≤ fo
          · skip
            have t40 := Lib.hid (show decide (0 ≤ fo) = true from by simp only [decide_eq_true_eq, decide_eq_false_iff_not]; omega)
            have t41 := Lib.hid (show decide (fo < 0) = false from by simp only [decide_eq_true_eq, decide_eq_false_iff_not]; omega)
            by_cases c5 : fo ≤ 8191
            · skip
              have t50 := Lib.hid (show decide (fo ≤ 8191) = true from by simp only [decide_eq_true_eq, decide_eq_false_iff_not]; omega)
              have t51 := Lib.hid (show decide (8191 < fo) = false from by simp only [decide_eq_true_eq, decide_eq_false_iff_not]; omega)
              have hz : Hid (r4 n ln fo s6 sh sl d6 dh dl = (ad4 s6 sh sl && ad4 d6 dh dl)) := Lib.hid (by unfold r4; simp only [c0, c1, c2, c3, c4, c5, decide_true, decide_false, Bool.true_and, Bool.false_and, Bool.and_false])
              clear c0 c1 c2 c3 c4 c5
              replace t00 := t00.out
              replace t01 := t01.out
              replace t02 := t02.out
              replace t03 := t03.out
              replace t10 := t10.out
              replace t20 := t20.out
              replace t21 := t21.out
              replace t22 := t22.out
              replace t30 := t30.out
              replace t31 := t31.out
              replace t40 := t40.out
              replace t41 := t41.out
              replace t50 := t50.out
              replace t51 := t51.out
              replace t19 := t19.out
              cases s6
              · cases d6
                · cases hq : ad4 false sh sl
                  · rw [hq] at HA1 hz
                    go_enter Try.func132, Try.ntmps132
                    go_wp2_with (go_at_call 170; first | ((with_reducible refine (HA1.out _).mono ?_); rintro e w1 ⟨bs1, d1, rfl, rfl⟩) | ((with_reducible refine (HA2.out _).mono ?_); rintro e w1 ⟨bs2, d2, rfl, rfl⟩))
                    go_ret
                    exact RetV.is_ (by rw [hz.out]; simp) (by with_reducible repeat (first | exact Below.refl _ _ | refine belowP ?_ _ _ | refine Below.allocS ?_ _))
                  · rw [hq] at HA1 hz
                    generalize ad4 false dh dl = q2 at *
                    go_enter Try.func132, Try.ntmps132
                    go_wp2_with (go_at_call 170; first | ((with_reducible refine (HA1.out _).mono ?_); rintro e w1 ⟨bs1, d1, rfl, rfl⟩) | ((with_reducible refine (HA2.out _).mono ?_); rintro e w1 ⟨bs2, d2, rfl, rfl⟩))
                    go_ret
                    exact RetV.is_ (by rw [hz.out]; simp) (by with_reducible repeat (first | exact Below.refl _ _ | refine belowP ?_ _ _ | refine Below.allocS ?_ _))
                · have hz2 : ad4 true dh dl = false := rfl
                  rw [hz2, Bool.and_false] at hz
                  go_enter Try.func132, Try.ntmps132
                  go_wp2_with (go_at_call 170; first | ((with_reducible refine (HA1.out _).mono ?_); rintro e w1 ⟨bs1, d1, rfl, rfl⟩) | ((with_reducible refine (HA2.out _).mono ?_); rintro e w1 ⟨bs2, d2, rfl, rfl⟩))
                  go_ret
                  exact RetV.is_ (by rw [hz.out]; simp) (by with_reducible repeat (first | exact Below.refl _ _ | refine belowP ?_ _ _ | refine Below.allocS ?_ _))
              · have hz2 : ad4 true sh sl = false := rfl
                rw [hz2, Bool.false_and] at hz
                go_enter Try.func132, Try.ntmps132
                go_wp2_with (go_at_call 170; first | ((with_reducible refine (HA1.out _).mono ?_); rintro e w1 ⟨bs1, d1, rfl, rfl⟩) | ((with_reducible refine (HA2.out _).mono ?_); rintro e w1 ⟨bs2, d2, rfl, rfl⟩))
                go_ret
                exact RetV.is_ (by rw [hz.out]; simp) (by with_reducible repeat (first | exact Below.refl _ _ | refine belowP ?_ _ _ | refine Below.allocS ?_ _))
            · skip
              have t50 := Lib.hid (show decide (fo ≤ 8191) = false from by simp only [decide_eq_true_eq, decide_eq_false_iff_not]; omega)
              have t51 := Lib.hid (show decide (8191 < fo) = true from by simp only [decide_eq_true_eq, decide_eq_false_iff_not]; omega)
              have hz : Hid (r4 n ln fo s6 sh sl d6 dh dl = (false)) := Lib.hid (by unfold r4; simp only [c0, c1, c2, c3, c4, c5, decide_true, decide_false, Bool.true_and, Bool.false_and, Bool.and_false])
              clear c0 c1 c2 c3 c4 c5
              replace t00 := t00.out
              replace t01 := t01.out
              replace t02 := t02.out
              replace t03 := t03.out
              replace t10 := t10.out
              replace t20 := t20.out
              replace t21 := t21.out
              replace t22 := t22.out
              replace t30 := t30.out
              replace t31 := t31.out
              replace t40 := t40.out
              replace t41 := t41.out
              replace t50 := t50.out
              replace t51 := t51.out
              replace t19 := t19.out
              go_enter Try.func132, Try.ntmps132
              go_wp2_with (go_at_call 170; first | ((with_reducible refine (HA1.out _).mono ?_); rintro e w1 ⟨bs1, d1, rfl, rfl⟩) | ((with_reducible refine (HA2.out _).mono ?_); rintro e w1 ⟨bs2, d2, rfl, rfl⟩))
              go_ret
              exact RetV.is_ (by rw [hz.out]; simp) (by with_reducible repeat (first | exact Below.refl _ _ | refine belowP ?_ _ _ | refine Below.allocS ?_ _))
          · skip
            have t40 := Lib.hid (show decide (0 ≤ fo) = false from by simp only [decide_eq_true_eq, decide_eq_false_iff_not]; omega)
            have t41 := Lib.hid (show decide (fo < 0) = true from by simp only [decide_eq_true_eq, decide_eq_false_iff_not]; omega)
            have hz : Hid (r4 n ln fo s6 sh sl d6 dh dl = (false)) := Lib.hid (by unfold r4; simp only [c0, c1, c2, c3, c4, decide_true, decide_false, Bool.true_and, Bool.false_and, Bool.and_false])
            clear c0 c1 c2 c3 c4
            replace t00 := t00.out
            replace t01 := t01.out
            replace t02 := t02.out
            replace t03 := t03.out
            replace t10 := t10.out
            replace t20 := t20.out
            replace t21 := t21.out
            replace t22 := t22.out
            replace t30 := t30.out
            replace t31 := t31.out
            replace t40 := t40.out
            replace t41 := t41.out
            replace t19 := t19.out
            go_enter Try.func132, Try.ntmps132
            go_wp2_with (go_at_call 170; first | ((with_reducible refine (HA1.out _).mono ?_); rintro e w1 ⟨bs1, d1, rfl, rfl⟩) | ((with_reducible refine (HA2.out _).mono ?_); rintro e w1 ⟨bs2, d2, rfl, rfl⟩))
            go_ret
            exact RetV.is_ (by rw [hz.out]; simp) (by with_reducible repeat (first | exact Below.refl _ _ | refine belowP ?_ _ _ | refine Below.allocS ?_ _))
        · skip
          have t30 := Lib.hid (show decide (ln ≤ 65535) = false from by simp only [decide_eq_true_eq, decide_eq_false_iff_not]; omega)
          have t31 := Lib.hid (show decide (65535 < ln) = true from by simp only [decide_eq_true_eq, decide_eq_false_iff_not]; omega)
          have hz : Hid (r4 n ln fo s6 sh sl d6 dh dl = (false)) := Lib.hid (by unfold r4; simp only [c0, c1, c2, c3, decide_true, decide_false, Bool.true_and, Bool.false_and, Bool.and_false])
          clear c0 c1 c2 c3
          replace t00 := t00.out
          replace t01 := t01.out
          replace t02 := t02.out
          replace t03 := t03.out
          replace t10 := t10.out
          replace t20 := t20.out
          replace t21 := t21.out
          replace t22 := t22.out
          replace t30 := t30.out
          replace t31 := t31.out
          replace t19 := t19.out
          go_enter Try.func132, Try.ntmps132
          go_wp2_with (go_at_call 170; first | ((with_reducible refine (HA1.out _).mono ?_); rintro e w1 ⟨bs1, d1, rfl, rfl⟩) | ((with_reducible refine (HA2.out _).mono ?_); rintro e w1 ⟨bs2, d2, rfl, rfl⟩))
          go_ret
          exact RetV.is_ (by rw [hz.out]; simp) (by with_reducible repeat (first | exact Below.refl _ _ | refine belowP ?_ _ _ | refine Below.allocS ?_ _))
      · skip
        have t20 := Lib.hid (show decide (20 + (n : Int) ≤ ln) = false from by simp only [decide_eq_true_eq, decide_eq_false_iff_not]; omega)
        have t21 := Lib.hid (show decide (ln < 20 + (n : Int)) = true from by simp only [decide_eq_true_eq, decide_eq_false_iff_not]; omega)
        have t22 := Lib.hid (show decide ((z : Int) ≤ ln) = false from by simp only [decide_eq_true_eq, decide_eq_false_iff_not]; omega)
        have hz : Hid (r4 n ln fo s6 sh sl d6 dh dl = (false)) := Lib.hid (by unfold r4; simp only [c0, c1, c2, decide_true, decide_false, Bool.true_and, Bool.false_and, Bool.and_false])
        clear c0 c1 c2
        replace t00 := t00.out
        replace t01 := t01.out
        replace t02 := t02.out
        replace t03 := t03.out
        replace t10 := t10.out
        replace t20 := t20.out
        replace t21 := t21.out
        replace t22 := t22.out
        replace t19 := t19.out
        go_enter Try.func132, Try.ntmps132
        go_wp2_with (go_at_call 170; first | ((with_reducible refine (HA1.out _).mono ?_); rintro e w1 ⟨bs1, d1, rfl, rfl⟩) | ((with_reducible refine (HA2.out _).mono ?_); rintro e w1 ⟨bs2, d2, rfl, rfl⟩))
        go_ret
        exact RetV.is_ (by rw [hz.out]; simp) (by with_reducible repeat (first | exact Below.refl _ _ | refine belowP ?_ _ _ | refine Below.allocS ?_ _))
    · skip
      have t10 := Lib.hid (show ((n : Int) % 4 == 0) = false from by rw [beq_eq_false_iff_ne]; omega)
      have t19 := Lib.hid (show ((n : Int) % 4 != 0) = true from by rw [bne_iff_ne]; omega)
      have hz : Hid (r4 n ln fo s6 sh sl d6 dh dl = (false)) := Lib.hid (by unfold r4; simp only [c0, c1, decide_true, decide_false, Bool.true_and, Bool.false_and, Bool.and_false])
      clear c0 c1
      replace t00 := t00.out
      replace t01 := t01.out
      replace t02 := t02.out
      replace t03 := t03.out
      replace t10 := t10.out
      replace t19 := t19.out
      go_enter Try.func132, Try.ntmps132
      go_wp2_with (go_at_call 170; first | ((with_reducible refine (HA1.out _).mono ?_); rintro e w1 ⟨bs1, d1, rfl, rfl⟩) | ((with_reducible refine (HA2.out _).mono ?_); rintro e w1 ⟨bs2, d2, rfl, rfl⟩))
      go_ret
      exact RetV.is_ (by rw [hz.out]; simp) (by with_reducible repeat (first | exact Below.refl _ _ | refine belowP ?_ _ _ | refine Below.allocS ?_ _))
  · skip
    have t00 := Lib.hid (show decide (n ≤ 40) = false from by simp only [decide_eq_true_eq, decide_eq_false_iff_not]; omega)
    have t01 := Lib.hid (show decide (40 < n) = true from by simp only [decide_eq_true_eq, decide_eq_false_iff_not]; omega)
    have t02 := Lib.hid (show decide ((n : Int) ≤ 40) = false from by simp only [decide_eq_true_eq, decide_eq_false_iff_not]; omega)
    have t03 := Lib.hid (show decide (40 < (n : Int)) = true from by simp only [decide_eq_true_eq, decide_eq_false_iff_not]; omega)
    have hz : Hid (r4 n ln fo s6 sh sl d6 dh dl = (false)) := Lib.hid (by unfold r4; simp only [c0, decide_true, decide_false, Bool.true_and, Bool.false_and, Bool.and_false])
    clear c0
    replace t00 := t00.out
    replace t01 := t01.out
    replace t02 := t02.out
    replace t03 := t03.out
    go_enter Try.func132, Try.ntmps132
    go_wp2_with (go_at_call 170; first | ((with_reducible refine (HA1.out _).mono ?_); rintro e w1 ⟨bs1, d1, rfl, rfl⟩) | ((with_reducible refine (HA2.out _).mono ?_); rintro e w1 ⟨bs2, d2, rfl, rfl⟩))
    go_ret
    exact RetV.is_ (by rw [hz.out]; simp) (by with_reducible repeat (first | exact Below.refl _ _ | refine belowP ?_ _ _ | refine Below.allocS ?_ _))
end Go.Proofs.Ytfmkndemkpecpaa
