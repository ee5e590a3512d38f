/- addr.Right; headers of IPv4: Size, Right. -/
import Derived.Test.YtfmkndemkpecpaaIp4A
namespace Go.Proofs.Ytfmkndemkpecpaa
open Go.RowKit
set_option linter.unusedVariables false
set_option linter.unusedSimpArgs false
attribute [local go_sem ↓] sliced_cut
attribute [local go_sem] cutA_zero

def h4C (ts : Nat) (ln : Int) (id : Nat) (st mo : Bool) (fo : Int) (tl pr sm : Nat) (s6 : Bool) (sh sl : Nat) (d6 : Bool) (dh dl : Nat) (A : Option Addr) (n k : Nat) : List Value := [.int .u8 (ts : Int), .int .i64 ln, .int .u16 (id : Int), .bool st, .bool mo, .int .i64 fo, .int .u8 (tl : Int), .int .u8 (pr : Int), .int .u16 (sm : Int), .bool s6, .int .u64 (sh : Int), .int .u64 (sl : Int), .bool d6, .int .u64 (dh : Int), .int .u64 (dl : Int), .slice A n k]
theorem h4C_one (ts : Nat) (ln : Int) (id : Nat) (st mo : Bool) (fo : Int) (tl pr sm : Nat) (s6 : Bool) (sh sl : Nat) (d6 : Bool) (dh dl : Nat) (A : Option Addr) (n k : Nat) : ∀ u ∈ h4C ts ln id st mo fo tl pr sm s6 sh sl d6 dh dl A n k, u.oneCell' = true := by
  intro u hu
  simp only [h4C, List.mem_cons, List.not_mem_nil, or_false] at hu
  rcases hu with rfl | rfl | rfl | rfl | rfl | rfl | rfl | rfl | rfl | rfl | rfl | rfl | rfl | rfl | rfl | rfl <;> rfl
theorem szH4 (ts : Nat) (ln : Int) (id : Nat) (st mo : Bool) (fo : Int) (tl pr sm : Nat) (s6 : Bool) (sh sl : Nat) (d6 : Bool) (dh dl : Nat) (A : Option Addr) (n k : Nat) : (Try.prog.info? 140).map (·.size) = some (h4C ts ln id st mo fo tl pr sm s6 sh sl d6 dh dl A n k).length := by kernel_rfl
theorem rowH4 : ∃ d, Try.prog.underlying 140 = some d ∧ d.isRow = true := ⟨_, Try.underlying140, rfl⟩
theorem szR4 (ts : Nat) (ln : Int) (id : Nat) (st mo : Bool) (fo : Int) (tl pr sm : Nat) (s6 : Bool) (sh sl : Nat) (d6 : Bool) (dh dl : Nat) (A : Option Addr) (n k : Nat) : (Try.prog.info? 184).map (·.size) = some (h4C ts ln id st mo fo tl pr sm s6 sh sl d6 dh dl A n k).length := by kernel_rfl
theorem rowR4 : ∃ d, Try.prog.underlying 184 = some d ∧ d.isRow = true := ⟨_, Try.underlying184, rfl⟩
theorem rowAd : ∃ d, Try.prog.underlying 26 = some d ∧ d.isRow = true := ⟨_, Try.underlying26, rfl⟩
/-- may an address of version 4 be? -/
def ad4 (six : Bool) (h l : Nat) : Bool := !six && (decide (h = 0) && decide (l < 4294967296))
set_option maxRecDepth 100000 in
theorem adrRightF (h l : Nat) (w : World) (h1 : h < 18446744073709551616) (h2 : l < 18446744073709551616) : Calls Try.prog 176 #[.agg #[.bool false, .int .u64 (h : Int), .int .u64 (l : Int)]] w (RetV w (.bool (ad4 false h l))) := by
  by_cases c1 : h = 0
  · subst c1
    by_cases c2 : l < 4294967296
    · have t1 : decide (l < 4294967296) = true := by simp; omega
      have hz : Hid (ad4 false 0 l = true) := Lib.hid (by simp [ad4]; omega)
      go_enter Try.func176, Try.ntmps176
      go_wp2
      go_ret
      exact RetV.is_ (by rw [hz.out]; simp; try omega) (Below.allocS (Below.refl _ _) _)
    · have t1 : decide (l < 4294967296) = false := by simp; omega
      have hz : Hid (ad4 false 0 l = false) := Lib.hid (by simp [ad4]; omega)
      go_enter Try.func176, Try.ntmps176
      go_wp2
      go_ret
      exact RetV.is_ (by rw [hz.out]; simp; try omega) (Below.allocS (Below.refl _ _) _)
  · have t1 : ((h : Int) == 0) = false := by rw [beq_eq_false_iff_ne]; omega
    have hz : Hid (ad4 false h l = false) := Lib.hid (by simp [ad4, c1])
    clear c1
    go_enter Try.func176, Try.ntmps176
    go_wp2
    go_ret
    exact RetV.is_ (by rw [hz.out]; simp; try omega) (Below.allocS (Below.refl _ _) _)
set_option maxRecDepth 100000 in
theorem refAdrRightF (h l : Nat) (w : World) (h1 : h < 18446744073709551616) (h2 : l < 18446744073709551616) : Calls Try.prog 170 #[.agg #[.bool false, .int .u64 (h : Int), .int .u64 (l : Int)]] w (RetV w (.bool (ad4 false h l))) := by
  by_cases c1 : h = 0
  · subst c1
    by_cases c2 : l < 4294967296
    · have t1 : decide (l ≤ 4294967295) = true := by simp; omega
      have hz : Hid (ad4 false 0 l = true) := Lib.hid (by simp [ad4]; omega)
      go_enter Try.func170, Try.ntmps170
      go_wp2
      go_ret
      exact RetV.is_ (by rw [hz.out]; simp; try omega) (Below.allocS (Below.refl _ _) _)
    · have t1 : decide (l ≤ 4294967295) = false := by simp; omega
      have hz : Hid (ad4 false 0 l = false) := Lib.hid (by simp [ad4]; omega)
      go_enter Try.func170, Try.ntmps170
      go_wp2
      go_ret
      exact RetV.is_ (by rw [hz.out]; simp; try omega) (Below.allocS (Below.refl _ _) _)
  · have t1 : ((h : Int) == 0) = false := by rw [beq_eq_false_iff_ne]; omega
    have hz : Hid (ad4 false h l = false) := Lib.hid (by simp [ad4, c1])
    clear c1
    go_enter Try.func170, Try.ntmps170
    go_wp2
    go_ret
    exact RetV.is_ (by rw [hz.out]; simp; try omega) (Below.allocS (Below.refl _ _) _)
theorem valid4 (six : Bool) (h l : Nat) (w : World) (h1 : h < 18446744073709551616) (h2 : l < 18446744073709551616) : Calls Try.prog 150 #[.agg (adC six h l).toArray] w (RetV w (.bool (ad4 six h l))) := by
  have HA := Lib.hid (fun w => adrRightF h l w h1 h2)
  unfold adC
  cases six
  · generalize ad4 false h l = q at *
    go_enter Try.func150, Try.ntmps150
    go_wp2_with (go_at_call 176; refine (HA.out _).mono ?_; rintro e w1 ⟨bs1, d1, rfl, rfl⟩)
    go_ret
    exact RetV.is_ rfl (belowP (Below.allocS (Below.refl _ _) _) _ _)
  · go_enter Try.func150, Try.ntmps150
    go_wp2
    go_ret
    exact RetV.is_ rfl (Below.allocS (Below.refl _ _) _)
set_option maxRecDepth 100000 in
theorem size4 (ts : Nat) (ln : Int) (id : Nat) (st mo : Bool) (fo : Int) (tl pr sm : Nat) (s6 : Bool) (sh sl : Nat) (d6 : Bool) (dh dl : Nat) (A : Option Addr) (n k : Nat) (w : World) (hn : n ≤ 1000000) : Calls Try.prog 107 #[.agg (h4C ts ln id st mo fo tl pr sm s6 sh sl d6 dh dl A n k).toArray] w (RetV w (.int .i64 ((20 + n : Nat) : Int))) := by
  unfold h4C
  go_enter Try.func107, Try.ntmps107
  go_wp2
  go_ret
  exact RetV.is_ (by simp) (Below.allocS (Below.refl _ _) _)
def r4 (n : Nat) (ln fo : Int) (s6 : Bool) (sh sl : Nat) (d6 : Bool) (dh dl : Nat) : Bool := decide (n ≤ 40) && (decide (n % 4 = 0) && (decide (20 + (n : Int) ≤ ln) && (decide (ln ≤ 65535) && (decide (0 ≤ fo) && (decide (fo ≤ 8191) && (ad4 s6 sh sl && ad4 d6 dh dl))))))
set_option maxHeartbeats 4000000 in
set_option maxRecDepth 100000 in
theorem right4 (ts : Nat) (ln : Int) (id : Nat) (st mo : Bool) (fo : Int) (tl pr sm : Nat) (s6 : Bool) (sh sl : Nat) (d6 : Bool) (dh dl : Nat) (A : Option Addr) (n k : Nat) (w : World) (hn : n ≤ 1000000) (hi : -9223372036854775808 ≤ ln ∧ ln ≤ 9223372036854775807) (hf : -9223372036854775808 ≤ fo ∧ fo ≤ 9223372036854775807) (k1 : sh < 18446744073709551616) (k2 : sl < 18446744073709551616) (k3 : dh < 18446744073709551616) (k4 : dl < 18446744073709551616) : Calls Try.prog 108 #[.agg (h4C ts ln id st mo fo tl pr sm s6 sh sl d6 dh dl A n k).toArray] w (RetV w (.bool (r4 n ln fo s6 sh sl d6 dh dl))) := by
  obtain ⟨du, u1, u2⟩ := rowH4
  obtain ⟨dv, v1, v2⟩ := rowAd
  have HS := Lib.hid (fun w => size4 ts ln id st mo fo tl pr sm s6 sh sl d6 dh dl A n k w hn)
  have HV1 := Lib.hid (fun w => valid4 s6 sh sl w k1 k2)
  have HV2 := Lib.hid (fun w => valid4 d6 dh dl w k3 k4)
  obtain ⟨z, hz0⟩ : ∃ z : Nat, z = 20 + n := ⟨_, rfl⟩
  rw [← hz0] at HS
  have hb : Bk (w.alloc (.cells (h4C ts ln id st mo fo tl pr sm s6 sh sl d6 dh dl A n k).toArray 140)) w.heap.size 140 (h4C ts ln id st mo fo tl pr sm s6 sh sl d6 dh dl A n k) := Bk.new w 140 (h4C ts ln id st mo fo tl pr sm s6 sh sl d6 dh dl A n k).toArray
  have q1 : (w.alloc (.cells (h4C ts ln id st mo fo tl pr sm s6 sh sl d6 dh dl A n k).toArray 140)).cell? ⟨w.heap.size, 1, none⟩ = some (.int .i64 ln) := hb.cell 1
  have q5 : (w.alloc (.cells (h4C ts ln id st mo fo tl pr sm s6 sh sl d6 dh dl A n k).toArray 140)).cell? ⟨w.heap.size, 5, none⟩ = some (.int .i64 fo) := hb.cell 5
  have q15 : (w.alloc (.cells (h4C ts ln id st mo fo tl pr sm s6 sh sl d6 dh dl A n k).toArray 140)).cell? ⟨w.heap.size, 15, none⟩ = some (.slice A n k) := hb.cell 15
  go_enter Try.func108, Try.ntmps108
  by_cases c0 : n ≤ 40
  · skip
    have t00 := Lib.hid (show decide (n ≤ 40) = true from by simp only [decide_eq_true_eq, decide_eq_false_iff_not]; omega)
    have t01 := Lib.hid (show decide (40 < n) = false from by simp only [decide_eq_true_eq, decide_eq_false_iff_not]; omega)
    have t02 := Lib.hid (show decide ((n : Int) ≤ 40) = true from by simp only [decide_eq_true_eq, decide_eq_false_iff_not]; omega)
    have t03 := Lib.hid (show decide (40 < (n : Int)) = false from by simp only [decide_eq_true_eq, decide_eq_false_iff_not]; omega)
    by_cases c1 : n % 4 = 0
    · skip
      have t10 := Lib.hid (show ((n : Int) % 4 == 0) = true from by rw [beq_iff_eq]; omega)
      by_cases c2 : 20 + (n : Int) ≤ ln
      · skip
        have t20 := Lib.hid (show decide (20 + (n : Int) ≤ ln) = true from by simp only [decide_eq_true_eq, decide_eq_false_iff_not]; omega)
        have t21 := Lib.hid (show decide (ln < 20 + (n : Int)) = false from by simp only [decide_eq_true_eq, decide_eq_false_iff_not]; omega)
        have t22 := Lib.hid (show decide ((z : Int) ≤ ln) = true from by simp only [decide_eq_true_eq, decide_eq_false_iff_not]; omega)
        by_cases c3 : ln ≤ 65535
        · skip
          have t30 := Lib.hid (show decide (ln ≤ 65535) = true from by simp only [decide_eq_true_eq, decide_eq_false_iff_not]; omega)
          have t31 := Lib.hid (show decide (65535 < ln) = false from by simp only [decide_eq_true_eq, decide_eq_false_iff_not]; omega)
          by_cases c4 : 0 ≤ fo
          · skip
            have t40 := Lib.hid (show decide (0 ≤ fo) = true from by simp only [decide_eq_true_eq, decide_eq_false_iff_not]; omega)
            have t41 := Lib.hid (show decide (fo < 0) = false from by simp only [decide_eq_true_eq, decide_eq_false_iff_not]; omega)
            by_cases c5 : fo ≤ 8191
            · skip
              have t50 := Lib.hid (show decide (fo ≤ 8191) = true from by simp only [decide_eq_true_eq, decide_eq_false_iff_not]; omega)
              have t51 := Lib.hid (show decide (8191 < fo) = false from by simp only [decide_eq_true_eq, decide_eq_false_iff_not]; omega)
              have hz : Hid (r4 n ln fo s6 sh sl d6 dh dl = (ad4 s6 sh sl && ad4 d6 dh dl)) := Lib.hid (by unfold r4; simp only [c0, c1, c2, c3, c4, c5, decide_true, decide_false, Bool.true_and, Bool.false_and, Bool.and_false])
              clear c0 c1 c2 c3 c4 c5
              replace t00 := t00.out
              replace t01 := t01.out
              replace t02 := t02.out
              replace t03 := t03.out
              replace t10 := t10.out
              replace t20 := t20.out
              replace t21 := t21.out
              replace t22 := t22.out
              replace t30 := t30.out
              replace t31 := t31.out
              replace t40 := t40.out
              replace t41 := t41.out
              replace t50 := t50.out
              replace t51 := t51.out
              cases hq : ad4 s6 sh sl
              · rw [hq] at HV1 hz
                go_wp2
                refine wp_plus (by kernel_rfl) (by kernel_rfl) ?_
                repeat (first
                  | (go_big_quiet_want; refine at_opQ (.load 140 (.tmp 1)) rfl ?_; refine quiet_ldA (t := 140) 140 (.tmp 1) rfl (h4C ts ln id st mo fo tl pr sm s6 sh sl d6 dh dl A n k) rfl (fun w' hw' => by obtain ⟨x, rfl⟩ := hw'; exact hb.later (below_plus _ _ _)) (whole_ _) u1 u2 (szH4 _ _ _ _ _ _ _ _ _ _ _ _ _ _ _ _ _ _) ?_; simp only [Act.put, List.setIfInBounds_toArray, List.set_cons_zero, List.set_cons_succ]; go_big_quiet_on)
                  | (go_big_quiet_want; refine at_opQ (.load 26 (.tmp 37)) rfl ?_; refine quiet_ldA (t := 140) 26 (.tmp 37) rfl (adC s6 sh sl) rfl (fun w' hw' => by obtain ⟨x, rfl⟩ := hw'; exact hb.later (below_plus _ _ _)) (rfl) v1 v2 (szAd _ _ _) ?_; simp only [Act.put, List.setIfInBounds_toArray, List.set_cons_zero, List.set_cons_succ]; go_big_quiet_on)
                  | (go_big_quiet_want; refine at_opQ (.load 26 (.tmp 42)) rfl ?_; refine quiet_ldA (t := 140) 26 (.tmp 42) rfl (adC d6 dh dl) rfl (fun w' hw' => by obtain ⟨x, rfl⟩ := hw'; exact hb.later (below_plus _ _ _)) (rfl) v1 v2 (szAd _ _ _) ?_; simp only [Act.put, List.setIfInBounds_toArray, List.set_cons_zero, List.set_cons_succ]; go_big_quiet_on)
                  | go_big_quiet_step (first
                    | (go_at_call 107; exact callP (HS.out _))
                    | (go_at_call 150; first | with_reducible exact callP (HV1.out _) | with_reducible exact callP (HV2.out _))))
                refine wpQuiet_nil ?_
                rintro _ ⟨x, rfl⟩
                go_wp2
                go_ret
                exact RetV.is_ (by rw [hz.out]; simp) (belowP (Below.allocS (Below.refl _ _) _) _ _)
              · rw [hq] at HV1 hz
                go_wp2
                refine wp_plus (by kernel_rfl) (by kernel_rfl) ?_
                repeat (first
                  | (go_big_quiet_want; refine at_opQ (.load 140 (.tmp 1)) rfl ?_; refine quiet_ldA (t := 140) 140 (.tmp 1) rfl (h4C ts ln id st mo fo tl pr sm s6 sh sl d6 dh dl A n k) rfl (fun w' hw' => by obtain ⟨x, rfl⟩ := hw'; exact hb.later (below_plus _ _ _)) (whole_ _) u1 u2 (szH4 _ _ _ _ _ _ _ _ _ _ _ _ _ _ _ _ _ _) ?_; simp only [Act.put, List.setIfInBounds_toArray, List.set_cons_zero, List.set_cons_succ]; go_big_quiet_on)
                  | (go_big_quiet_want; refine at_opQ (.load 26 (.tmp 37)) rfl ?_; refine quiet_ldA (t := 140) 26 (.tmp 37) rfl (adC s6 sh sl) rfl (fun w' hw' => by obtain ⟨x, rfl⟩ := hw'; exact hb.later (below_plus _ _ _)) (rfl) v1 v2 (szAd _ _ _) ?_; simp only [Act.put, List.setIfInBounds_toArray, List.set_cons_zero, List.set_cons_succ]; go_big_quiet_on)
                  | (go_big_quiet_want; refine at_opQ (.load 26 (.tmp 42)) rfl ?_; refine quiet_ldA (t := 140) 26 (.tmp 42) rfl (adC d6 dh dl) rfl (fun w' hw' => by obtain ⟨x, rfl⟩ := hw'; exact hb.later (below_plus _ _ _)) (rfl) v1 v2 (szAd _ _ _) ?_; simp only [Act.put, List.setIfInBounds_toArray, List.set_cons_zero, List.set_cons_succ]; go_big_quiet_on)
                  | go_big_quiet_step (first
                    | (go_at_call 107; exact callP (HS.out _))
                    | (go_at_call 150; first | with_reducible exact callP (HV1.out _) | with_reducible exact callP (HV2.out _))))
                refine wpQuiet_nil ?_
                rintro _ ⟨x, rfl⟩
                go_wp2
                go_ret
                exact RetV.is_ (by rw [hz.out]; simp) (belowP (Below.allocS (Below.refl _ _) _) _ _)
            · skip
              have t50 := Lib.hid (show decide (fo ≤ 8191) = false from by simp only [decide_eq_true_eq, decide_eq_false_iff_not]; omega)
              have t51 := Lib.hid (show decide (8191 < fo) = true from by simp only [decide_eq_true_eq, decide_eq_false_iff_not]; omega)
              have hz : Hid (r4 n ln fo s6 sh sl d6 dh dl = (false)) := Lib.hid (by unfold r4; simp only [c0, c1, c2, c3, c4, c5, decide_true, decide_false, Bool.true_and, Bool.false_and, Bool.and_false])
              clear c0 c1 c2 c3 c4 c5
              replace t00 := t00.out
              replace t01 := t01.out
              replace t02 := t02.out
              replace t03 := t03.out
              replace t10 := t10.out
              replace t20 := t20.out
              replace t21 := t21.out
              replace t22 := t22.out
              replace t30 := t30.out
              replace t31 := t31.out
              replace t40 := t40.out
              replace t41 := t41.out
              replace t50 := t50.out
              replace t51 := t51.out
              go_wp2
              refine wp_plus (by kernel_rfl) (by kernel_rfl) ?_
              repeat (first
                | (go_big_quiet_want; refine at_opQ (.load 140 (.tmp 1)) rfl ?_; refine quiet_ldA (t := 140) 140 (.tmp 1) rfl (h4C ts ln id st mo fo tl pr sm s6 sh sl d6 dh dl A n k) rfl (fun w' hw' => by obtain ⟨x, rfl⟩ := hw'; exact hb.later (below_plus _ _ _)) (whole_ _) u1 u2 (szH4 _ _ _ _ _ _ _ _ _ _ _ _ _ _ _ _ _ _) ?_; simp only [Act.put, List.setIfInBounds_toArray, List.set_cons_zero, List.set_cons_succ]; go_big_quiet_on)
                | (go_big_quiet_want; refine at_opQ (.load 26 (.tmp 37)) rfl ?_; refine quiet_ldA (t := 140) 26 (.tmp 37) rfl (adC s6 sh sl) rfl (fun w' hw' => by obtain ⟨x, rfl⟩ := hw'; exact hb.later (below_plus _ _ _)) (rfl) v1 v2 (szAd _ _ _) ?_; simp only [Act.put, List.setIfInBounds_toArray, List.set_cons_zero, List.set_cons_succ]; go_big_quiet_on)
                | (go_big_quiet_want; refine at_opQ (.load 26 (.tmp 42)) rfl ?_; refine quiet_ldA (t := 140) 26 (.tmp 42) rfl (adC d6 dh dl) rfl (fun w' hw' => by obtain ⟨x, rfl⟩ := hw'; exact hb.later (below_plus _ _ _)) (rfl) v1 v2 (szAd _ _ _) ?_; simp only [Act.put, List.setIfInBounds_toArray, List.set_cons_zero, List.set_cons_succ]; go_big_quiet_on)
                | go_big_quiet_step (first
                  | (go_at_call 107; exact callP (HS.out _))
                  | (go_at_call 150; first | with_reducible exact callP (HV1.out _) | with_reducible exact callP (HV2.out _))))
              refine wpQuiet_nil ?_
              rintro _ ⟨x, rfl⟩
              go_wp2
              go_ret
              exact RetV.is_ (by rw [hz.out]; simp) (belowP (Below.allocS (Below.refl _ _) _) _ _)
          · skip
            have t40 := Lib.hid (show decide (0 ≤ fo) = false from by simp only [decide_eq_true_eq, decide_eq_false_iff_not]; omega)
            have t41 := Lib.hid (show decide (fo < 0) = true from by simp only [decide_eq_true_eq, decide_eq_false_iff_not]; omega)
            have hz : Hid (r4 n ln fo s6 sh sl d6 dh dl = (false)) := Lib.hid (by unfold r4; simp only [c0, c1, c2, c3, c4, decide_true, decide_false, Bool.true_and, Bool.false_and, Bool.and_false])
            clear c0 c1 c2 c3 c4
            replace t00 := t00.out
            replace t01 := t01.out
            replace t02 := t02.out
            replace t03 := t03.out
            replace t10 := t10.out
            replace t20 := t20.out
            replace t21 := t21.out
            replace t22 := t22.out
            replace t30 := t30.out
            replace t31 := t31.out
            replace t40 := t40.out
            replace t41 := t41.out
            go_wp2
            refine wp_plus (by kernel_rfl) (by kernel_rfl) ?_
            repeat (first
              | (go_big_quiet_want; refine at_opQ (.load 140 (.tmp 1)) rfl ?_; refine quiet_ldA (t := 140) 140 (.tmp 1) rfl (h4C ts ln id st mo fo tl pr sm s6 sh sl d6 dh dl A n k) rfl (fun w' hw' => by obtain ⟨x, rfl⟩ := hw'; exact hb.later (below_plus _ _ _)) (whole_ _) u1 u2 (szH4 _ _ _ _ _ _ _ _ _ _ _ _ _ _ _ _ _ _) ?_; simp only [Act.put, List.setIfInBounds_toArray, List.set_cons_zero, List.set_cons_succ]; go_big_quiet_on)
              | (go_big_quiet_want; refine at_opQ (.load 26 (.tmp 37)) rfl ?_; refine quiet_ldA (t := 140) 26 (.tmp 37) rfl (adC s6 sh sl) rfl (fun w' hw' => by obtain ⟨x, rfl⟩ := hw'; exact hb.later (below_plus _ _ _)) (rfl) v1 v2 (szAd _ _ _) ?_; simp only [Act.put, List.setIfInBounds_toArray, List.set_cons_zero, List.set_cons_succ]; go_big_quiet_on)
              | (go_big_quiet_want; refine at_opQ (.load 26 (.tmp 42)) rfl ?_; refine quiet_ldA (t := 140) 26 (.tmp 42) rfl (adC d6 dh dl) rfl (fun w' hw' => by obtain ⟨x, rfl⟩ := hw'; exact hb.later (below_plus _ _ _)) (rfl) v1 v2 (szAd _ _ _) ?_; simp only [Act.put, List.setIfInBounds_toArray, List.set_cons_zero, List.set_cons_succ]; go_big_quiet_on)
              | go_big_quiet_step (first
                | (go_at_call 107; exact callP (HS.out _))
                | (go_at_call 150; first | with_reducible exact callP (HV1.out _) | with_reducible exact callP (HV2.out _))))
            refine wpQuiet_nil ?_
            rintro _ ⟨x, rfl⟩
            go_wp2
            go_ret
            exact RetV.is_ (by rw [hz.out]; simp) (belowP (Below.allocS (Below.refl _ _) _) _ _)
        · skip
          have t30 := Lib.hid (show decide (ln ≤ 65535) = false from by simp only [decide_eq_true_eq, decide_eq_false_iff_not]; omega)
          have t31 := Lib.hid (show decide (65535 < ln) = true from by simp only [decide_eq_true_eq, decide_eq_false_iff_not]; omega)
          have hz : Hid (r4 n ln fo s6 sh sl d6 dh dl = (false)) := Lib.hid (by unfold r4; simp only [c0, c1, c2, c3, decide_true, decide_false, Bool.true_and, Bool.false_and, Bool.and_false])
          clear c0 c1 c2 c3
          replace t00 := t00.out
          replace t01 := t01.out
          replace t02 := t02.out
          replace t03 := t03.out
          replace t10 := t10.out
          replace t20 := t20.out
          replace t21 := t21.out
          replace t22 := t22.out
          replace t30 := t30.out
          replace t31 := t31.out
          go_wp2
          refine wp_plus (by kernel_rfl) (by kernel_rfl) ?_
          repeat (first
            | (go_big_quiet_want; refine at_opQ (.load 140 (.tmp 1)) rfl ?_; refine quiet_ldA (t := 140) 140 (.tmp 1) rfl (h4C ts ln id st mo fo tl pr sm s6 sh sl d6 dh dl A n k) rfl (fun w' hw' => by obtain ⟨x, rfl⟩ := hw'; exact hb.later (below_plus _ _ _)) (whole_ _) u1 u2 (szH4 _ _ _ _ _ _ _ _ _ _ _ _ _ _ _ _ _ _) ?_; simp only [Act.put, List.setIfInBounds_toArray, List.set_cons_zero, List.set_cons_succ]; go_big_quiet_on)
            | (go_big_quiet_want; refine at_opQ (.load 26 (.tmp 37)) rfl ?_; refine quiet_ldA (t := 140) 26 (.tmp 37) rfl (adC s6 sh sl) rfl (fun w' hw' => by obtain ⟨x, rfl⟩ := hw'; exact hb.later (below_plus _ _ _)) (rfl) v1 v2 (szAd _ _ _) ?_; simp only [Act.put, List.setIfInBounds_toArray, List.set_cons_zero, List.set_cons_succ]; go_big_quiet_on)
            | (go_big_quiet_want; refine at_opQ (.load 26 (.tmp 42)) rfl ?_; refine quiet_ldA (t := 140) 26 (.tmp 42) rfl (adC d6 dh dl) rfl (fun w' hw' => by obtain ⟨x, rfl⟩ := hw'; exact hb.later (below_plus _ _ _)) (rfl) v1 v2 (szAd _ _ _) ?_; simp only [Act.put, List.setIfInBounds_toArray, List.set_cons_zero, List.set_cons_succ]; go_big_quiet_on)
            | go_big_quiet_step (first
              | (go_at_call 107; exact callP (HS.out _))
              | (go_at_call 150; first | with_reducible exact callP (HV1.out _) | with_reducible exact callP (HV2.out _))))
          refine wpQuiet_nil ?_
          rintro _ ⟨x, rfl⟩
          go_wp2
          go_ret
          exact RetV.is_ (by rw [hz.out]; simp) (belowP (Below.allocS (Below.refl _ _) _) _ _)
      · skip
        have t20 := Lib.hid (show decide (20 + (n : Int) ≤ ln) = false from by simp only [decide_eq_true_eq, decide_eq_false_iff_not]; omega)
        have t21 := Lib.hid (show decide (ln < 20 + (n : Int)) = true from by simp only [decide_eq_true_eq, decide_eq_false_iff_not]; omega)
        have t22 := Lib.hid (show decide ((z : Int) ≤ ln) = false from by simp only [decide_eq_true_eq, decide_eq_false_iff_not]; omega)
        have hz : Hid (r4 n ln fo s6 sh sl d6 dh dl = (false)) := Lib.hid (by unfold r4; simp only [c0, c1, c2, decide_true, decide_false, Bool.true_and, Bool.false_and, Bool.and_false])
        clear c0 c1 c2
        replace t00 := t00.out
        replace t01 := t01.out
        replace t02 := t02.out
        replace t03 := t03.out
        replace t10 := t10.out
        replace t20 := t20.out
        replace t21 := t21.out
        replace t22 := t22.out
        go_wp2
        refine wp_plus (by kernel_rfl) (by kernel_rfl) ?_
        repeat (first
          | (go_big_quiet_want; refine at_opQ (.load 140 (.tmp 1)) rfl ?_; refine quiet_ldA (t := 140) 140 (.tmp 1) rfl (h4C ts ln id st mo fo tl pr sm s6 sh sl d6 dh dl A n k) rfl (fun w' hw' => by obtain ⟨x, rfl⟩ := hw'; exact hb.later (below_plus _ _ _)) (whole_ _) u1 u2 (szH4 _ _ _ _ _ _ _ _ _ _ _ _ _ _ _ _ _ _) ?_; simp only [Act.put, List.setIfInBounds_toArray, List.set_cons_zero, List.set_cons_succ]; go_big_quiet_on)
          | (go_big_quiet_want; refine at_opQ (.load 26 (.tmp 37)) rfl ?_; refine quiet_ldA (t := 140) 26 (.tmp 37) rfl (adC s6 sh sl) rfl (fun w' hw' => by obtain ⟨x, rfl⟩ := hw'; exact hb.later (below_plus _ _ _)) (rfl) v1 v2 (szAd _ _ _) ?_; simp only [Act.put, List.setIfInBounds_toArray, List.set_cons_zero, List.set_cons_succ]; go_big_quiet_on)
          | (go_big_quiet_want; refine at_opQ (.load 26 (.tmp 42)) rfl ?_; refine quiet_ldA (t := 140) 26 (.tmp 42) rfl (adC d6 dh dl) rfl (fun w' hw' => by obtain ⟨x, rfl⟩ := hw'; exact hb.later (below_plus _ _ _)) (rfl) v1 v2 (szAd _ _ _) ?_; simp only [Act.put, List.setIfInBounds_toArray, List.set_cons_zero, List.set_cons_succ]; go_big_quiet_on)
          | go_big_quiet_step (first
            | (go_at_call 107; exact callP (HS.out _))
            | (go_at_call 150; first | with_reducible exact callP (HV1.out _) | with_reducible exact callP (HV2.out _))))
        refine wpQuiet_nil ?_
        rintro _ ⟨x, rfl⟩
        go_wp2
        go_ret
        exact RetV.is_ (by rw [hz.out]; simp) (belowP (Below.allocS (Below.refl _ _) _) _ _)
    · skip
      have t10 := Lib.hid (show ((n : Int) % 4 == 0) = false from by rw [beq_eq_false_iff_ne]; omega)
      have hz : Hid (r4 n ln fo s6 sh sl d6 dh dl = (false)) := Lib.hid (by unfold r4; simp only [c0, c1, decide_true, decide_false, Bool.true_and, Bool.false_and, Bool.and_false])
      clear c0 c1
      replace t00 := t00.out
      replace t01 := t01.out
      replace t02 := t02.out
      replace t03 := t03.out
      replace t10 := t10.out
      go_wp2
      refine wp_plus (by kernel_rfl) (by kernel_rfl) ?_
      repeat (first
        | (go_big_quiet_want; refine at_opQ (.load 140 (.tmp 1)) rfl ?_; refine quiet_ldA (t := 140) 140 (.tmp 1) rfl (h4C ts ln id st mo fo tl pr sm s6 sh sl d6 dh dl A n k) rfl (fun w' hw' => by obtain ⟨x, rfl⟩ := hw'; exact hb.later (below_plus _ _ _)) (whole_ _) u1 u2 (szH4 _ _ _ _ _ _ _ _ _ _ _ _ _ _ _ _ _ _) ?_; simp only [Act.put, List.setIfInBounds_toArray, List.set_cons_zero, List.set_cons_succ]; go_big_quiet_on)
        | (go_big_quiet_want; refine at_opQ (.load 26 (.tmp 37)) rfl ?_; refine quiet_ldA (t := 140) 26 (.tmp 37) rfl (adC s6 sh sl) rfl (fun w' hw' => by obtain ⟨x, rfl⟩ := hw'; exact hb.later (below_plus _ _ _)) (rfl) v1 v2 (szAd _ _ _) ?_; simp only [Act.put, List.setIfInBounds_toArray, List.set_cons_zero, List.set_cons_succ]; go_big_quiet_on)
        | (go_big_quiet_want; refine at_opQ (.load 26 (.tmp 42)) rfl ?_; refine quiet_ldA (t := 140) 26 (.tmp 42) rfl (adC d6 dh dl) rfl (fun w' hw' => by obtain ⟨x, rfl⟩ := hw'; exact hb.later (below_plus _ _ _)) (rfl) v1 v2 (szAd _ _ _) ?_; simp only [Act.put, List.setIfInBounds_toArray, List.set_cons_zero, List.set_cons_succ]; go_big_quiet_on)
        | go_big_quiet_step (first
          | (go_at_call 107; exact callP (HS.out _))
          | (go_at_call 150; first | with_reducible exact callP (HV1.out _) | with_reducible exact callP (HV2.out _))))
      refine wpQuiet_nil ?_
      rintro _ ⟨x, rfl⟩
      go_wp2
      go_ret
      exact RetV.is_ (by rw [hz.out]; simp) (belowP (Below.allocS (Below.refl _ _) _) _ _)
  · skip
    have t00 := Lib.hid (show decide (n ≤ 40) = false from by simp only [decide_eq_true_eq, decide_eq_false_iff_not]; omega)
    have t01 := Lib.hid (show decide (40 < n) = true from by simp only [decide_eq_true_eq, decide_eq_false_iff_not]; omega)
    have t02 := Lib.hid (show decide ((n : Int) ≤ 40) = false from by simp only [decide_eq_true_eq, decide_eq_false_iff_not]; omega)
    have t03 := Lib.hid (show decide (40 < (n : Int)) = true from by simp only [decide_eq_true_eq, decide_eq_false_iff_not]; omega)
    have hz : Hid (r4 n ln fo s6 sh sl d6 dh dl = (false)) := Lib.hid (by unfold r4; simp only [c0, decide_true, decide_false, Bool.true_and, Bool.false_and, Bool.and_false])
    clear c0
    replace t00 := t00.out
    replace t01 := t01.out
    replace t02 := t02.out
    replace t03 := t03.out
    go_wp2
    refine wp_plus (by kernel_rfl) (by kernel_rfl) ?_
    repeat (first
      | (go_big_quiet_want; refine at_opQ (.load 140 (.tmp 1)) rfl ?_; refine quiet_ldA (t := 140) 140 (.tmp 1) rfl (h4C ts ln id st mo fo tl pr sm s6 sh sl d6 dh dl A n k) rfl (fun w' hw' => by obtain ⟨x, rfl⟩ := hw'; exact hb.later (below_plus _ _ _)) (whole_ _) u1 u2 (szH4 _ _ _ _ _ _ _ _ _ _ _ _ _ _ _ _ _ _) ?_; simp only [Act.put, List.setIfInBounds_toArray, List.set_cons_zero, List.set_cons_succ]; go_big_quiet_on)
      | (go_big_quiet_want; refine at_opQ (.load 26 (.tmp 37)) rfl ?_; refine quiet_ldA (t := 140) 26 (.tmp 37) rfl (adC s6 sh sl) rfl (fun w' hw' => by obtain ⟨x, rfl⟩ := hw'; exact hb.later (below_plus _ _ _)) (rfl) v1 v2 (szAd _ _ _) ?_; simp only [Act.put, List.setIfInBounds_toArray, List.set_cons_zero, List.set_cons_succ]; go_big_quiet_on)
      | (go_big_quiet_want; refine at_opQ (.load 26 (.tmp 42)) rfl ?_; refine quiet_ldA (t := 140) 26 (.tmp 42) rfl (adC d6 dh dl) rfl (fun w' hw' => by obtain ⟨x, rfl⟩ := hw'; exact hb.later (below_plus _ _ _)) (rfl) v1 v2 (szAd _ _ _) ?_; simp only [Act.put, List.setIfInBounds_toArray, List.set_cons_zero, List.set_cons_succ]; go_big_quiet_on)
      | go_big_quiet_step (first
        | (go_at_call 107; exact callP (HS.out _))
        | (go_at_call 150; first | with_reducible exact callP (HV1.out _) | with_reducible exact callP (HV2.out _))))
    refine wpQuiet_nil ?_
    rintro _ ⟨x, rfl⟩
    go_wp2
    go_ret
    exact RetV.is_ (by rw [hz.out]; simp) (belowP (Below.allocS (Below.refl _ _) _) _ _)
end Go.Proofs.Ytfmkndemkpecpaa
