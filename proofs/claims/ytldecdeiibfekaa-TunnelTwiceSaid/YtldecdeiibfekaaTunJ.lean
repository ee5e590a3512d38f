/- The law TunnelTwice. -/
import Derived.Test.YtldecdeiibfekaaTunI
namespace Go.Proofs.Ytldecdeiibfekaa
open Go.RowKit
set_option linter.unusedVariables false
set_option linter.unusedSimpArgs false
attribute [local go_sem ↓] sliced_cut
attribute [local go_sem] cutA_zero

theorem wraps (l : List UInt8) (B : Bool) (hp : Pkt l B) (hn : l.length ≤ 3000) (s6 : Bool) (sh sl : Nat) (d6 : Bool) (dh dl tl : Nat) (k1 : sh < 18446744073709551616) (k2 : sl < 18446744073709551616) (k3 : dh < 18446744073709551616) (k4 : dl < 18446744073709551616) (htl : tl < 256) (he : (adOK s6 sh sl && adOK d6 dh dl) = true) (hr : (s6 == d6 && decide (0 < tl)) = true) :
    ∃ L B', L.length ≤ 40 + l.length ∧ Pkt L B' ∧ (∀ A n c w, Rb w A n c l → Calls Try.prog 79 #[.agg (wyC s6 sh sl d6 dh dl tl).toArray, .slice A n c] w (RetBE w L 0)) ∧ (∀ A n c w, Rb w A n c L → Calls Try.prog 72 #[.slice A n c] w (RetTW w l s6 sh sl d6 dh dl tl 0)) := by
  simp only [Bool.and_eq_true, decide_eq_true_eq, beq_iff_eq] at he hr
  obtain ⟨rfl, ht⟩ := hr
  cases s6
  · simp only [adOK, Bool.false_or, Bool.and_eq_true, decide_eq_true_eq] at he
    obtain ⟨⟨rfl, q1⟩, rfl, q2⟩ := he
    obtain ⟨L, h1, h2, h3, h4⟩ := wrap_pkt4 l B hp hn sl dl tl q1 q2 ht htl
    exact ⟨L, false, by omega, h2, h3, h4⟩
  · obtain ⟨L, h1, h2, h3, h4⟩ := wrap_pkt6 l B hp hn sh sl dh dl tl k1 k2 k3 k4 ht htl
    exact ⟨L, true, by omega, h2, h3, h4⟩
attribute [local go_sem ↓] eq_wy
set_option maxHeartbeats 4000000 in
set_option maxRecDepth 100000 in
theorem tunnelTwice_of (w : World) (s6 : Bool) (sh sl : Nat) (d6 : Bool) (dh dl tl : Nat) (t6 : Bool) (th tl2 : Nat) (e6 : Bool) (eh el ul : Nat) (ts : Nat) (ln : Int) (id : Nat) (st mo : Bool) (fo : Int) (tt pr sm : Nat) (i6 : Bool) (ih il : Nat) (j6 : Bool) (jh jl : Nat) (A : Option Addr) (n k : Nat) (o : List UInt8) (A2 : Option Addr) (m c2 : Nat) (load : List UInt8) (hr : Rb w A n k o) (h2 : Rb w A2 m c2 load) (i1 : sh < 18446744073709551616) (i2 : sl < 18446744073709551616) (i3 : dh < 18446744073709551616) (i4 : dl < 18446744073709551616) (i5 : tl < 256) (j1 : th < 18446744073709551616) (j2 : tl2 < 18446744073709551616) (j3 : eh < 18446744073709551616) (j4 : el < 18446744073709551616) (j5 : ul < 256)
    (b1 : ts < 256) (b2 : id < 65536) (b3 : tt < 256) (b4 : pr < 256) (hf : -9223372036854775808 ≤ fo ∧ fo ≤ 9223372036854775807) (k1 : ih < 18446744073709551616) (k2 : il < 18446744073709551616) (k3 : jh < 18446744073709551616) (k4 : jl < 18446744073709551616) :
    Calls Try.prog 13 #[.agg (wyC s6 sh sl d6 dh dl tl).toArray, .agg (wyC t6 th tl2 e6 eh el ul).toArray, .agg (h4C ts ln id st mo fo tt pr sm i6 ih il j6 jh jl A n k).toArray, .slice A2 m c2] w fun e w' => e = .returned (.bool true) ∧ Below w.heap.size w w' := by
  have HAW := Lib.hid awake9
  obtain ⟨du, u1, u2⟩ := rowR4
  obtain ⟨dr, r1, r2⟩ := rowRWy
  obtain ⟨dy, y1, y2⟩ := rowWy
  have hW : Bk (((w.alloc (.cells (wyC s6 sh sl d6 dh dl tl).toArray 129)).alloc (.cells (wyC t6 th tl2 e6 eh el ul).toArray 129)).alloc (.cells (h4C ts ln id st mo fo tt pr sm i6 ih il j6 jh jl A n k).toArray 83)) w.heap.size 129 (wyC s6 sh sl d6 dh dl tl) := ((Bk.new w 129 (wyC s6 sh sl d6 dh dl tl).toArray).alloc _).alloc _
  have hV : Bk (((w.alloc (.cells (wyC s6 sh sl d6 dh dl tl).toArray 129)).alloc (.cells (wyC t6 th tl2 e6 eh el ul).toArray 129)).alloc (.cells (h4C ts ln id st mo fo tt pr sm i6 ih il j6 jh jl A n k).toArray 83)) (w.heap.size + 1) 129 (wyC t6 th tl2 e6 eh el ul) := (Bk.newK _ _ _ (by simp) rfl).alloc _
  have hH : Bk (((w.alloc (.cells (wyC s6 sh sl d6 dh dl tl).toArray 129)).alloc (.cells (wyC t6 th tl2 e6 eh el ul).toArray 129)).alloc (.cells (h4C ts ln id st mo fo tt pr sm i6 ih il j6 jh jl A n k).toArray 83)) (w.heap.size + 1 + 1) 83 (h4C ts ln id st mo fo tt pr sm i6 ih il j6 jh jl A n k) := Bk.newK _ _ _ (by simp) rfl
  have be : Below w.heap.size w (((w.alloc (.cells (wyC s6 sh sl d6 dh dl tl).toArray 129)).alloc (.cells (wyC t6 th tl2 e6 eh el ul).toArray 129)).alloc (.cells (h4C ts ln id st mo fo tt pr sm i6 ih il j6 jh jl A n k).toArray 83)) := Below.allocS (Below.allocS (Below.allocS (Below.refl _ _) _) _) _
  have HEW := Lib.hid (fun w => refEnds s6 sh sl d6 dh dl tl w i2 i4)
  have HEV := Lib.hid (fun w => refEnds t6 th tl2 e6 eh el ul w j2 j4)
  by_cases hbig : 2000 < m
  · have da1 : decide (2000 < (m : Int)) = true := by simp only [decide_eq_true_eq]; omega
    go_enter Try.func13, Try.ntmps13
    go_upto_region 1 with (fail)
    generalize (((w.alloc (.cells (wyC s6 sh sl d6 dh dl tl).toArray 129)).alloc (.cells (wyC t6 th tl2 e6 eh el ul).toArray 129)).alloc (.cells (h4C ts ln id st mo fo tt pr sm i6 ih il j6 jh jl A n k).toArray 83)) = V0 at *
    go_wp2_with (first
      | (refine at_op (.load 129 (.tmp 4)) rfl ?_; refine wpList_ldG (t := 129) 129 (.tmp 4) rfl rfl (wyC s6 sh sl d6 dh dl tl) rfl (by with_reducible repeat (first | exact hW | refine Bk.later ?_ (below_plus _ _ _) | refine Bk.alloc ?_ _)) (whole_ _) r1 r2 (szRWy _ _ _ _ _ _ _) ?_)
      | (refine at_op (.load 129 (.tmp 5)) rfl ?_; refine wpList_ldG (t := 129) 129 (.tmp 5) rfl rfl (wyC t6 th tl2 e6 eh el ul) rfl (by with_reducible repeat (first | exact hV | refine Bk.later ?_ (below_plus _ _ _) | refine Bk.alloc ?_ _)) (whole_ _) r1 r2 (szRWy _ _ _ _ _ _ _) ?_)
      | (go_at_call 77; (with_reducible refine (HEW.out _).mono ?_); rintro e w1 ⟨bs1, d1, rfl, rfl⟩)
      | (go_at_call 77; (with_reducible refine (HEV.out _).mono ?_); rintro e w1 ⟨bs2, d2, rfl, rfl⟩)
      | (go_at_call 71; (with_reducible refine (HAW.out _).mono ?_); rintro e w1 ⟨bsa, dsa, rfl, rfl⟩))
    go_ret
    refine ⟨rfl, ?_⟩
    repeat (first | exact be | refine belowP ?_ _ _)
  have da1 : decide (2000 < (m : Int)) = false := by simp only [decide_eq_false_iff_not]; omega
  cases hew : (adOK s6 sh sl && adOK d6 dh dl)
  · rw [hew] at HEW
    go_enter Try.func13, Try.ntmps13
    go_upto_region 1 with (fail)
    generalize (((w.alloc (.cells (wyC s6 sh sl d6 dh dl tl).toArray 129)).alloc (.cells (wyC t6 th tl2 e6 eh el ul).toArray 129)).alloc (.cells (h4C ts ln id st mo fo tt pr sm i6 ih il j6 jh jl A n k).toArray 83)) = V0 at *
    go_wp2_with (first
      | (refine at_op (.load 129 (.tmp 4)) rfl ?_; refine wpList_ldG (t := 129) 129 (.tmp 4) rfl rfl (wyC s6 sh sl d6 dh dl tl) rfl (by with_reducible repeat (first | exact hW | refine Bk.later ?_ (below_plus _ _ _) | refine Bk.alloc ?_ _)) (whole_ _) r1 r2 (szRWy _ _ _ _ _ _ _) ?_)
      | (refine at_op (.load 129 (.tmp 5)) rfl ?_; refine wpList_ldG (t := 129) 129 (.tmp 5) rfl rfl (wyC t6 th tl2 e6 eh el ul) rfl (by with_reducible repeat (first | exact hV | refine Bk.later ?_ (below_plus _ _ _) | refine Bk.alloc ?_ _)) (whole_ _) r1 r2 (szRWy _ _ _ _ _ _ _) ?_)
      | (go_at_call 77; (with_reducible refine (HEW.out _).mono ?_); rintro e w1 ⟨bs1, d1, rfl, rfl⟩)
      | (go_at_call 77; (with_reducible refine (HEV.out _).mono ?_); rintro e w1 ⟨bs2, d2, rfl, rfl⟩)
      | (go_at_call 71; (with_reducible refine (HAW.out _).mono ?_); rintro e w1 ⟨bsa, dsa, rfl, rfl⟩))
    go_ret
    refine ⟨rfl, ?_⟩
    repeat (first | exact be | refine belowP ?_ _ _)
  rw [hew] at HEW
  cases hev : (adOK t6 th tl2 && adOK e6 eh el)
  · rw [hev] at HEV
    go_enter Try.func13, Try.ntmps13
    go_upto_region 1 with (fail)
    generalize (((w.alloc (.cells (wyC s6 sh sl d6 dh dl tl).toArray 129)).alloc (.cells (wyC t6 th tl2 e6 eh el ul).toArray 129)).alloc (.cells (h4C ts ln id st mo fo tt pr sm i6 ih il j6 jh jl A n k).toArray 83)) = V0 at *
    go_wp2_with (first
      | (refine at_op (.load 129 (.tmp 4)) rfl ?_; refine wpList_ldG (t := 129) 129 (.tmp 4) rfl rfl (wyC s6 sh sl d6 dh dl tl) rfl (by with_reducible repeat (first | exact hW | refine Bk.later ?_ (below_plus _ _ _) | refine Bk.alloc ?_ _)) (whole_ _) r1 r2 (szRWy _ _ _ _ _ _ _) ?_)
      | (refine at_op (.load 129 (.tmp 5)) rfl ?_; refine wpList_ldG (t := 129) 129 (.tmp 5) rfl rfl (wyC t6 th tl2 e6 eh el ul) rfl (by with_reducible repeat (first | exact hV | refine Bk.later ?_ (below_plus _ _ _) | refine Bk.alloc ?_ _)) (whole_ _) r1 r2 (szRWy _ _ _ _ _ _ _) ?_)
      | (go_at_call 77; (with_reducible refine (HEW.out _).mono ?_); rintro e w1 ⟨bs1, d1, rfl, rfl⟩)
      | (go_at_call 77; (with_reducible refine (HEV.out _).mono ?_); rintro e w1 ⟨bs2, d2, rfl, rfl⟩)
      | (go_at_call 71; (with_reducible refine (HAW.out _).mono ?_); rintro e w1 ⟨bsa, dsa, rfl, rfl⟩))
    go_ret
    refine ⟨rfl, ?_⟩
    repeat (first | exact be | refine belowP ?_ _ _)
  rw [hev] at HEV
  obtain ⟨E, L0, HPK0, hgood⟩ := refPacket4_any ts ln id st mo fo tt pr sm i6 ih il j6 jh jl A n k o load m hr.1 h2.1 (by omega) b1 b2 b3 b4 hf k1 k2 k3 k4
  have HPK := Lib.hid (fun w A2 c2 (hr : Rb w A n k o) (h2 : Rb w A2 m c2 load) => HPK0 A2 c2 w hr h2)
  have HRW := Lib.hid (fun w => refWayRight s6 sh sl d6 dh dl tl w)
  have HRV := Lib.hid (fun w => refWayRight t6 th tl2 e6 eh el ul w)
  clear HPK0
  replace hr := ((hr.alloc (.cells (wyC s6 sh sl d6 dh dl tl).toArray 129)).alloc (.cells (wyC t6 th tl2 e6 eh el ul).toArray 129)).alloc (.cells (h4C ts ln id st mo fo tt pr sm i6 ih il j6 jh jl A n k).toArray 83)
  replace h2 := ((h2.alloc (.cells (wyC s6 sh sl d6 dh dl tl).toArray 129)).alloc (.cells (wyC t6 th tl2 e6 eh el ul).toArray 129)).alloc (.cells (h4C ts ln id st mo fo tt pr sm i6 ih il j6 jh jl A n k).toArray 83)
  by_cases hE : E = 0
  case neg =>
    have hE2 : (E != 0) = true := by rw [bne_iff_ne]; exact hE
    clear hgood hE
    go_enter Try.func13, Try.ntmps13
    go_upto_region 1 with (fail)
    generalize (((w.alloc (.cells (wyC s6 sh sl d6 dh dl tl).toArray 129)).alloc (.cells (wyC t6 th tl2 e6 eh el ul).toArray 129)).alloc (.cells (h4C ts ln id st mo fo tt pr sm i6 ih il j6 jh jl A n k).toArray 83)) = V0 at *
    go_upto_region 3 with (first
      | (refine at_op (.load 129 (.tmp 4)) rfl ?_; refine wpList_ldG (t := 129) 129 (.tmp 4) rfl rfl (wyC s6 sh sl d6 dh dl tl) rfl (by with_reducible repeat (first | exact hW | refine Bk.later ?_ (below_plus _ _ _) | refine Bk.alloc ?_ _)) (whole_ _) r1 r2 (szRWy _ _ _ _ _ _ _) ?_)
      | (refine at_op (.load 129 (.tmp 5)) rfl ?_; refine wpList_ldG (t := 129) 129 (.tmp 5) rfl rfl (wyC t6 th tl2 e6 eh el ul) rfl (by with_reducible repeat (first | exact hV | refine Bk.later ?_ (below_plus _ _ _) | refine Bk.alloc ?_ _)) (whole_ _) r1 r2 (szRWy _ _ _ _ _ _ _) ?_)
      | (go_at_call 77; (with_reducible refine (HEW.out _).mono ?_); rintro e w1 ⟨bs1, d1, rfl, rfl⟩)
      | (go_at_call 77; (with_reducible refine (HEV.out _).mono ?_); rintro e w1 ⟨bs2, d2, rfl, rfl⟩))
    replace hW := (hW.later (below_plus _ bs1 d1)).later (below_plus _ bs2 d2)
    replace hV := (hV.later (below_plus _ bs1 d1)).later (below_plus _ bs2 d2)
    replace hH := (hH.later (below_plus _ bs1 d1)).later (below_plus _ bs2 d2)
    replace hr := (hr.plus_ bs1 d1).plus_ bs2 d2
    replace h2 := (h2.plus_ bs1 d1).plus_ bs2 d2
    replace be := belowP (belowP be bs1 d1) bs2 d2
    generalize plus (plus V0 bs1 d1) bs2 d2 = V1 at *
    go_upto_region 4 with (first
      | (refine at_op (.load 83 (.tmp 6)) rfl ?_; refine wpList_ldA (t := 83) 83 (.tmp 6) rfl rfl (h4C ts ln id st mo fo tt pr sm i6 ih il j6 jh jl A n k) rfl (by with_reducible repeat (first | exact hH | refine Bk.later ?_ (below_plus _ _ _) | refine Bk.alloc ?_ _)) (whole_ _) u1 u2 (szR4 _ _ _ _ _ _ _ _ _ _ _ _ _ _ _ _ _ _) ?_)
      | (go_at_call 54; (with_reducible refine (HPK.out _ _ _ hr h2).mono ?_); rintro e w1 ⟨A3, n3, c3, bs3, d3, rfl, rfl, hb⟩))
    replace hW := hW.later (below_plus _ bs3 d3)
    replace hV := hV.later (below_plus _ bs3 d3)
    replace be := belowP be bs3 d3
    generalize plus V1 bs3 d3 = V2 at *
    clear hH hr h2
    go_wp2_with (first
      | (refine at_op (.load 129 (.tmp 4)) rfl ?_; refine wpList_ldG (t := 129) 129 (.tmp 4) rfl rfl (wyC s6 sh sl d6 dh dl tl) rfl (by with_reducible repeat (first | exact hW | refine Bk.later ?_ (below_plus _ _ _) | refine Bk.alloc ?_ _)) (whole_ _) r1 r2 (szRWy _ _ _ _ _ _ _) ?_)
      | (refine at_op (.load 129 (.tmp 5)) rfl ?_; refine wpList_ldG (t := 129) 129 (.tmp 5) rfl rfl (wyC t6 th tl2 e6 eh el ul) rfl (by with_reducible repeat (first | exact hV | refine Bk.later ?_ (below_plus _ _ _) | refine Bk.alloc ?_ _)) (whole_ _) r1 r2 (szRWy _ _ _ _ _ _ _) ?_)
      | (go_at_call 78; (with_reducible refine (HRW.out _).mono ?_); rintro e w1 ⟨bs4, d4, rfl, rfl⟩)
      | (go_at_call 78; (with_reducible refine (HRV.out _).mono ?_); rintro e w1 ⟨bs5, d5, rfl, rfl⟩)
      | (go_at_call 71; (with_reducible refine (HAW.out _).mono ?_); rintro e w1 ⟨bsa, dsa, rfl, rfl⟩))
    go_ret
    refine ⟨rfl, ?_⟩
    repeat (first | exact be | refine belowP ?_ _ _)
  subst hE
  obtain ⟨hp0, hl0⟩ := hgood rfl
  cases hrw : (s6 == d6 && decide (0 < tl))
  · rw [hrw] at HRW
    clear hp0 hgood
    go_enter Try.func13, Try.ntmps13
    go_upto_region 1 with (fail)
    generalize (((w.alloc (.cells (wyC s6 sh sl d6 dh dl tl).toArray 129)).alloc (.cells (wyC t6 th tl2 e6 eh el ul).toArray 129)).alloc (.cells (h4C ts ln id st mo fo tt pr sm i6 ih il j6 jh jl A n k).toArray 83)) = V0 at *
    go_upto_region 3 with (first
      | (refine at_op (.load 129 (.tmp 4)) rfl ?_; refine wpList_ldG (t := 129) 129 (.tmp 4) rfl rfl (wyC s6 sh sl d6 dh dl tl) rfl (by with_reducible repeat (first | exact hW | refine Bk.later ?_ (below_plus _ _ _) | refine Bk.alloc ?_ _)) (whole_ _) r1 r2 (szRWy _ _ _ _ _ _ _) ?_)
      | (refine at_op (.load 129 (.tmp 5)) rfl ?_; refine wpList_ldG (t := 129) 129 (.tmp 5) rfl rfl (wyC t6 th tl2 e6 eh el ul) rfl (by with_reducible repeat (first | exact hV | refine Bk.later ?_ (below_plus _ _ _) | refine Bk.alloc ?_ _)) (whole_ _) r1 r2 (szRWy _ _ _ _ _ _ _) ?_)
      | (go_at_call 77; (with_reducible refine (HEW.out _).mono ?_); rintro e w1 ⟨bs1, d1, rfl, rfl⟩)
      | (go_at_call 77; (with_reducible refine (HEV.out _).mono ?_); rintro e w1 ⟨bs2, d2, rfl, rfl⟩))
    replace hW := (hW.later (below_plus _ bs1 d1)).later (below_plus _ bs2 d2)
    replace hV := (hV.later (below_plus _ bs1 d1)).later (below_plus _ bs2 d2)
    replace hH := (hH.later (below_plus _ bs1 d1)).later (below_plus _ bs2 d2)
    replace hr := (hr.plus_ bs1 d1).plus_ bs2 d2
    replace h2 := (h2.plus_ bs1 d1).plus_ bs2 d2
    replace be := belowP (belowP be bs1 d1) bs2 d2
    generalize plus (plus V0 bs1 d1) bs2 d2 = V1 at *
    go_upto_region 4 with (first
      | (refine at_op (.load 83 (.tmp 6)) rfl ?_; refine wpList_ldA (t := 83) 83 (.tmp 6) rfl rfl (h4C ts ln id st mo fo tt pr sm i6 ih il j6 jh jl A n k) rfl (by with_reducible repeat (first | exact hH | refine Bk.later ?_ (below_plus _ _ _) | refine Bk.alloc ?_ _)) (whole_ _) u1 u2 (szR4 _ _ _ _ _ _ _ _ _ _ _ _ _ _ _ _ _ _) ?_)
      | (go_at_call 54; (with_reducible refine (HPK.out _ _ _ hr h2).mono ?_); rintro e w1 ⟨A3, n3, c3, bs3, d3, rfl, rfl, hb⟩))
    replace hW := hW.later (below_plus _ bs3 d3)
    replace hV := hV.later (below_plus _ bs3 d3)
    replace be := belowP be bs3 d3
    generalize plus V1 bs3 d3 = V2 at *
    clear hH hr h2
    go_wp2_with (first
      | (refine at_op (.load 129 (.tmp 4)) rfl ?_; refine wpList_ldG (t := 129) 129 (.tmp 4) rfl rfl (wyC s6 sh sl d6 dh dl tl) rfl (by with_reducible repeat (first | exact hW | refine Bk.later ?_ (below_plus _ _ _) | refine Bk.alloc ?_ _)) (whole_ _) r1 r2 (szRWy _ _ _ _ _ _ _) ?_)
      | (refine at_op (.load 129 (.tmp 5)) rfl ?_; refine wpList_ldG (t := 129) 129 (.tmp 5) rfl rfl (wyC t6 th tl2 e6 eh el ul) rfl (by with_reducible repeat (first | exact hV | refine Bk.later ?_ (below_plus _ _ _) | refine Bk.alloc ?_ _)) (whole_ _) r1 r2 (szRWy _ _ _ _ _ _ _) ?_)
      | (go_at_call 78; (with_reducible refine (HRW.out _).mono ?_); rintro e w1 ⟨bs4, d4, rfl, rfl⟩)
      | (go_at_call 78; (with_reducible refine (HRV.out _).mono ?_); rintro e w1 ⟨bs5, d5, rfl, rfl⟩)
      | (go_at_call 71; (with_reducible refine (HAW.out _).mono ?_); rintro e w1 ⟨bsa, dsa, rfl, rfl⟩))
    go_ret
    refine ⟨rfl, ?_⟩
    repeat (first | exact be | refine belowP ?_ _ _)
  rw [hrw] at HRW
  cases hrv : (t6 == e6 && decide (0 < ul))
  · rw [hrv] at HRV
    clear hp0 hgood
    go_enter Try.func13, Try.ntmps13
    go_upto_region 1 with (fail)
    generalize (((w.alloc (.cells (wyC s6 sh sl d6 dh dl tl).toArray 129)).alloc (.cells (wyC t6 th tl2 e6 eh el ul).toArray 129)).alloc (.cells (h4C ts ln id st mo fo tt pr sm i6 ih il j6 jh jl A n k).toArray 83)) = V0 at *
    go_upto_region 3 with (first
      | (refine at_op (.load 129 (.tmp 4)) rfl ?_; refine wpList_ldG (t := 129) 129 (.tmp 4) rfl rfl (wyC s6 sh sl d6 dh dl tl) rfl (by with_reducible repeat (first | exact hW | refine Bk.later ?_ (below_plus _ _ _) | refine Bk.alloc ?_ _)) (whole_ _) r1 r2 (szRWy _ _ _ _ _ _ _) ?_)
      | (refine at_op (.load 129 (.tmp 5)) rfl ?_; refine wpList_ldG (t := 129) 129 (.tmp 5) rfl rfl (wyC t6 th tl2 e6 eh el ul) rfl (by with_reducible repeat (first | exact hV | refine Bk.later ?_ (below_plus _ _ _) | refine Bk.alloc ?_ _)) (whole_ _) r1 r2 (szRWy _ _ _ _ _ _ _) ?_)
      | (go_at_call 77; (with_reducible refine (HEW.out _).mono ?_); rintro e w1 ⟨bs1, d1, rfl, rfl⟩)
      | (go_at_call 77; (with_reducible refine (HEV.out _).mono ?_); rintro e w1 ⟨bs2, d2, rfl, rfl⟩))
    replace hW := (hW.later (below_plus _ bs1 d1)).later (below_plus _ bs2 d2)
    replace hV := (hV.later (below_plus _ bs1 d1)).later (below_plus _ bs2 d2)
    replace hH := (hH.later (below_plus _ bs1 d1)).later (below_plus _ bs2 d2)
    replace hr := (hr.plus_ bs1 d1).plus_ bs2 d2
    replace h2 := (h2.plus_ bs1 d1).plus_ bs2 d2
    replace be := belowP (belowP be bs1 d1) bs2 d2
    generalize plus (plus V0 bs1 d1) bs2 d2 = V1 at *
    go_upto_region 4 with (first
      | (refine at_op (.load 83 (.tmp 6)) rfl ?_; refine wpList_ldA (t := 83) 83 (.tmp 6) rfl rfl (h4C ts ln id st mo fo tt pr sm i6 ih il j6 jh jl A n k) rfl (by with_reducible repeat (first | exact hH | refine Bk.later ?_ (below_plus _ _ _) | refine Bk.alloc ?_ _)) (whole_ _) u1 u2 (szR4 _ _ _ _ _ _ _ _ _ _ _ _ _ _ _ _ _ _) ?_)
      | (go_at_call 54; (with_reducible refine (HPK.out _ _ _ hr h2).mono ?_); rintro e w1 ⟨A3, n3, c3, bs3, d3, rfl, rfl, hb⟩))
    replace hW := hW.later (below_plus _ bs3 d3)
    replace hV := hV.later (below_plus _ bs3 d3)
    replace be := belowP be bs3 d3
    generalize plus V1 bs3 d3 = V2 at *
    clear hH hr h2
    go_wp2_with (first
      | (refine at_op (.load 129 (.tmp 4)) rfl ?_; refine wpList_ldG (t := 129) 129 (.tmp 4) rfl rfl (wyC s6 sh sl d6 dh dl tl) rfl (by with_reducible repeat (first | exact hW | refine Bk.later ?_ (below_plus _ _ _) | refine Bk.alloc ?_ _)) (whole_ _) r1 r2 (szRWy _ _ _ _ _ _ _) ?_)
      | (refine at_op (.load 129 (.tmp 5)) rfl ?_; refine wpList_ldG (t := 129) 129 (.tmp 5) rfl rfl (wyC t6 th tl2 e6 eh el ul) rfl (by with_reducible repeat (first | exact hV | refine Bk.later ?_ (below_plus _ _ _) | refine Bk.alloc ?_ _)) (whole_ _) r1 r2 (szRWy _ _ _ _ _ _ _) ?_)
      | (go_at_call 78; (with_reducible refine (HRW.out _).mono ?_); rintro e w1 ⟨bs4, d4, rfl, rfl⟩)
      | (go_at_call 78; (with_reducible refine (HRV.out _).mono ?_); rintro e w1 ⟨bs5, d5, rfl, rfl⟩)
      | (go_at_call 71; (with_reducible refine (HAW.out _).mono ?_); rintro e w1 ⟨bsa, dsa, rfl, rfl⟩))
    go_ret
    refine ⟨rfl, ?_⟩
    repeat (first | exact be | refine belowP ?_ _ _)
  rw [hrv] at HRV
  obtain ⟨L1, B1, hl1, hp1, HW10, HU10⟩ := wraps L0 false hp0 (by omega) s6 sh sl d6 dh dl tl i1 i2 i3 i4 i5 hew hrw
  obtain ⟨L2, B2, -, -, HW20, HU20⟩ := wraps L1 B1 hp1 (by omega) t6 th tl2 e6 eh el ul j1 j2 j3 j4 j5 hev hrv
  have HW1 := Lib.hid (fun w A n c h => HW10 A n c w h)
  have HU1 := Lib.hid (fun w A n c h => HU10 A n c w h)
  have HW2 := Lib.hid (fun w A n c h => HW20 A n c w h)
  have HU2 := Lib.hid (fun w A n c h => HU20 A n c w h)
  have HTW := Lib.hid (tunTo s6 sh sl d6 dh dl tl)
  have HTV := Lib.hid (tunTo t6 th tl2 e6 eh el ul)
  clear HW10 HU10 HW20 HU20 hp0 hp1 hgood hl0 hl1 hew hev hrw hrv
  go_enter Try.func13, Try.ntmps13
  go_upto_region 1 with (fail)
  generalize (((w.alloc (.cells (wyC s6 sh sl d6 dh dl tl).toArray 129)).alloc (.cells (wyC t6 th tl2 e6 eh el ul).toArray 129)).alloc (.cells (h4C ts ln id st mo fo tt pr sm i6 ih il j6 jh jl A n k).toArray 83)) = V0 at *
  go_upto_region 3 with (first
    | (refine at_op (.load 129 (.tmp 4)) rfl ?_; refine wpList_ldG (t := 129) 129 (.tmp 4) rfl rfl (wyC s6 sh sl d6 dh dl tl) rfl (by with_reducible repeat (first | exact hW | refine Bk.later ?_ (below_plus _ _ _) | refine Bk.alloc ?_ _)) (whole_ _) r1 r2 (szRWy _ _ _ _ _ _ _) ?_)
    | (refine at_op (.load 129 (.tmp 5)) rfl ?_; refine wpList_ldG (t := 129) 129 (.tmp 5) rfl rfl (wyC t6 th tl2 e6 eh el ul) rfl (by with_reducible repeat (first | exact hV | refine Bk.later ?_ (below_plus _ _ _) | refine Bk.alloc ?_ _)) (whole_ _) r1 r2 (szRWy _ _ _ _ _ _ _) ?_)
    | (go_at_call 77; (with_reducible refine (HEW.out _).mono ?_); rintro e w1 ⟨bs1, d1, rfl, rfl⟩)
    | (go_at_call 77; (with_reducible refine (HEV.out _).mono ?_); rintro e w1 ⟨bs2, d2, rfl, rfl⟩))
  replace hW := (hW.later (below_plus _ bs1 d1)).later (below_plus _ bs2 d2)
  replace hV := (hV.later (below_plus _ bs1 d1)).later (below_plus _ bs2 d2)
  replace hH := (hH.later (below_plus _ bs1 d1)).later (below_plus _ bs2 d2)
  replace hr := (hr.plus_ bs1 d1).plus_ bs2 d2
  replace h2 := (h2.plus_ bs1 d1).plus_ bs2 d2
  replace be := belowP (belowP be bs1 d1) bs2 d2
  generalize plus (plus V0 bs1 d1) bs2 d2 = V1 at *
  go_upto_region 4 with (first
    | (refine at_op (.load 83 (.tmp 6)) rfl ?_; refine wpList_ldA (t := 83) 83 (.tmp 6) rfl rfl (h4C ts ln id st mo fo tt pr sm i6 ih il j6 jh jl A n k) rfl (by with_reducible repeat (first | exact hH | refine Bk.later ?_ (below_plus _ _ _) | refine Bk.alloc ?_ _)) (whole_ _) u1 u2 (szR4 _ _ _ _ _ _ _ _ _ _ _ _ _ _ _ _ _ _) ?_)
    | (go_at_call 54; (with_reducible refine (HPK.out _ _ _ hr h2).mono ?_); rintro e w1 ⟨A3, n3, c3, bs3, d3, rfl, rfl, hb⟩))
  replace hW := hW.later (below_plus _ bs3 d3)
  replace hV := hV.later (below_plus _ bs3 d3)
  replace be := belowP be bs3 d3
  generalize plus V1 bs3 d3 = V2 at *
  clear hH hr h2
  go_upto_region 6 with (first
    | (refine at_op (.load 129 (.tmp 4)) rfl ?_; refine wpList_ldG (t := 129) 129 (.tmp 4) rfl rfl (wyC s6 sh sl d6 dh dl tl) rfl (by with_reducible repeat (first | exact hW | refine Bk.later ?_ (below_plus _ _ _) | refine Bk.alloc ?_ _)) (whole_ _) r1 r2 (szRWy _ _ _ _ _ _ _) ?_)
    | (refine at_op (.load 129 (.tmp 5)) rfl ?_; refine wpList_ldG (t := 129) 129 (.tmp 5) rfl rfl (wyC t6 th tl2 e6 eh el ul) rfl (by with_reducible repeat (first | exact hV | refine Bk.later ?_ (below_plus _ _ _) | refine Bk.alloc ?_ _)) (whole_ _) r1 r2 (szRWy _ _ _ _ _ _ _) ?_)
    | (go_at_call 78; (with_reducible refine (HRW.out _).mono ?_); rintro e w1 ⟨bs4, d4, rfl, rfl⟩)
    | (go_at_call 78; (with_reducible refine (HRV.out _).mono ?_); rintro e w1 ⟨bs5, d5, rfl, rfl⟩))
  replace hW := (hW.later (below_plus _ bs4 d4)).later (below_plus _ bs5 d5)
  replace hV := (hV.later (below_plus _ bs4 d4)).later (below_plus _ bs5 d5)
  replace hb := (hb.plus_ bs4 d4).plus_ bs5 d5
  replace be := belowP (belowP be bs4 d4) bs5 d5
  generalize plus (plus V2 bs4 d4) bs5 d5 = V3 at *
  go_upto_region 7 with (first
    | (refine at_op (.load 129 (.tmp 4)) rfl ?_; refine wpList_ldA (t := 129) 129 (.tmp 4) rfl rfl (wyC s6 sh sl d6 dh dl tl) rfl (by with_reducible repeat (first | exact hW | refine Bk.later ?_ (below_plus _ _ _) | refine Bk.alloc ?_ _)) (whole_ _) r1 r2 (szRWy _ _ _ _ _ _ _) ?_)
    | (go_at_call 76; (with_reducible refine (HTW.out _).mono ?_); rintro e w1 ⟨bs6, d6x, rfl, rfl⟩)
    | (go_at_call 79; (with_reducible refine (HW1.out _ _ _ _ (hb.plus_ bs6 d6x)).mono ?_); rintro e w1 ⟨A7, n7, c7, bs7, d7, rfl, rfl, hc⟩))
  replace hW := (hW.later (below_plus _ bs6 d6x)).later (below_plus _ bs7 d7)
  replace hV := (hV.later (below_plus _ bs6 d6x)).later (below_plus _ bs7 d7)
  replace hb := (hb.plus_ bs6 d6x).plus_ bs7 d7
  replace be := belowP (belowP be bs6 d6x) bs7 d7
  generalize plus (plus V3 bs6 d6x) bs7 d7 = V4 at *
  go_upto_region 8 with (first
    | (refine at_op (.load 129 (.tmp 5)) rfl ?_; refine wpList_ldA (t := 129) 129 (.tmp 5) rfl rfl (wyC t6 th tl2 e6 eh el ul) rfl (by with_reducible repeat (first | exact hV | refine Bk.later ?_ (below_plus _ _ _) | refine Bk.alloc ?_ _)) (whole_ _) r1 r2 (szRWy _ _ _ _ _ _ _) ?_)
    | (go_at_call 76; (with_reducible refine (HTV.out _).mono ?_); rintro e w1 ⟨bs8, d8, rfl, rfl⟩)
    | (go_at_call 79; (with_reducible refine (HW2.out _ _ _ _ (hc.plus_ bs8 d8)).mono ?_); rintro e w1 ⟨A9, n9, c9, bs9, d9, rfl, rfl, hd⟩))
  replace hW := (hW.later (below_plus _ bs8 d8)).later (below_plus _ bs9 d9)
  replace hV := (hV.later (below_plus _ bs8 d8)).later (below_plus _ bs9 d9)
  replace hb := (hb.plus_ bs8 d8).plus_ bs9 d9
  replace be := belowP (belowP be bs8 d8) bs9 d9
  generalize plus (plus V4 bs8 d8) bs9 d9 = V5 at *
  clear hc
  go_upto_region 9 with (first
    | (go_at_call 72; (with_reducible refine (HU2.out _ _ _ _ hd).mono ?_); rintro e w1 ⟨Aa, na, ca, bsb, db, rfl, rfl, hx⟩)
    | (refine at_op (.store 126 (.tmp 16) (.tmp 72)) rfl ?_; refine wpList_stA (t := 126) 126 (.tmp 16) (.tmp 72) rfl rfl (wyC t6 th tl2 e6 eh el ul) (wyC false 0 0 false 0 0 0) rfl (wyC_one _ _ _ _ _ _ _) rfl rfl ?_ (szWy _ _ _ _ _ _ _) ?_; (· refine Bk.newK _ _ _ ?_ rfl; simp [size_plus]); intro W6 hM gr6))
  have b6 := below_grown (Below.allocS (below_plus V5 bsb db) _) gr6 (by omega)
  have z6 := be.size
  replace be := be.trans (b6.mono z6)
  replace hW := hW.later b6
  replace hV := hV.later b6
  replace hb := hb.later b6
  replace hx := hx.later (below_grown (Below.allocS (Below.refl _ _) _) gr6 (by simp [size_plus]))
  clear gr6 b6 z6 hd
  generalize V5.heap.size + bsb.length = g16 at *
  have z16 := hM.lt
  go_upto_region 10 with (first
    | (go_at_call 72; (with_reducible refine (HU1.out _ _ _ _ hx).mono ?_); rintro e w1 ⟨Ay, ny, cy, bsc, dc, rfl, rfl, hy⟩)
    | (refine at_op (.store 126 (.tmp 19) (.tmp 78)) rfl ?_; refine wpList_stA (t := 126) 126 (.tmp 19) (.tmp 78) rfl rfl (wyC s6 sh sl d6 dh dl tl) (wyC false 0 0 false 0 0 0) rfl (wyC_one _ _ _ _ _ _ _) rfl rfl ?_ (szWy _ _ _ _ _ _ _) ?_; (· refine Bk.newK _ _ _ ?_ rfl; simp [size_plus]); intro W7 hN gr7))
  have b7 := below_grown (Below.allocS (below_plus W6 bsc dc) _) gr7 (by omega)
  have z7 := be.size
  replace be := be.trans (b7.mono z7)
  replace hW := hW.later b7
  replace hV := hV.later b7
  replace hM := hM.later b7
  replace hb := hb.later b7
  replace hy := hy.later (below_grown (Below.allocS (Below.refl _ _) _) gr7 (by simp [size_plus]))
  clear gr7 b7 z7 hx z16
  generalize W6.heap.size + bsc.length = g19 at *
  clear HW1 HW2 HU1 HU2 HRW HRV
  go_wp2
  refine wp_relS 37 116 rfl (by kernel_rfl) (by kernel_rfl) ?_
  apply Steps.one (MP.eq _) 1 rfl
  · intro o ho FA x hO hD K hK
    obtain rfl := Option.some.inj ho.symm
    clear ho
    have e12 := hO 12 (by kernel_rfl)
    simp only [eval_tmp, List.getElem?_toArray, List.getElem?_cons_succ, List.getElem?_cons_zero, Option.getD_some] at e12
    have ev12 := Lib.hid ((eval_tmp FA 12).trans e12)
    clear hO hD
    go_simp
    exact hK.out _ _ (Ex.refl _) rfl
  apply Steps.one (MP.eq _) 2 rfl
  · intro o ho FA x hO hD K hK
    obtain rfl := Option.some.inj ho.symm
    clear ho
    have ev80 : FA.eval (.tmp 80) = _ := hD 0 80 (by kernel_rfl)
    have e80 := (eval_tmp FA 80).symm.trans ev80
    replace ev80 := Lib.hid ev80
    clear hO hD
    go_simp
    exact hK.out _ _ (Ex.refl _) rfl
  apply Steps.one (MP.eq _) 3 rfl
  · intro o ho FA x hO hD K hK
    obtain rfl := Option.some.inj ho.symm
    clear ho
    have ev81 : FA.eval (.tmp 81) = _ := hD 1 81 (by kernel_rfl)
    have e81 := (eval_tmp FA 81).symm.trans ev81
    replace ev81 := Lib.hid ev81
    clear hO hD
    go_simp
    exact hK.out _ _ (Ex.refl _) rfl
  apply Steps.one (MP.eq _) 4 rfl
  · intro o ho FA x hO hD K hK
    obtain rfl := Option.some.inj ho.symm
    clear ho
    have e14 := hO 14 (by kernel_rfl)
    simp only [eval_tmp, List.getElem?_toArray, List.getElem?_cons_succ, List.getElem?_cons_zero, Option.getD_some] at e14
    have ev14 := Lib.hid ((eval_tmp FA 14).trans e14)
    have ev82 : FA.eval (.tmp 82) = _ := hD 2 82 (by kernel_rfl)
    have e82 := (eval_tmp FA 82).symm.trans ev82
    replace ev82 := Lib.hid ev82
    first | have ge82 := slot_of e82 | have ge82 := slot_un e82
    clear hO hD
    go_simp
    exact hK.out _ _ (Ex.refl _) rfl
  apply Steps.one (MP.eq _) 5 rfl
  · intro o ho FA x hO hD K hK
    obtain rfl := Option.some.inj ho.symm
    clear ho
    have ev83 : FA.eval (.tmp 83) = _ := hD 3 83 (by kernel_rfl)
    have e83 := (eval_tmp FA 83).symm.trans ev83
    replace ev83 := Lib.hid ev83
    have ev82 : FA.eval (.tmp 82) = _ := hD 2 82 (by kernel_rfl)
    have e82 := (eval_tmp FA 82).symm.trans ev82
    replace ev82 := Lib.hid ev82
    first | have ge82 := slot_of e82 | have ge82 := slot_un e82
    clear hO hD
    go_simp
    exact hK.out _ _ (Ex.refl _) rfl
  apply Steps.one (MP.eq _) 6 rfl
  · intro o ho FA x hO hD K hK
    obtain rfl := Option.some.inj ho.symm
    clear ho
    have ev82 : FA.eval (.tmp 82) = _ := hD 2 82 (by kernel_rfl)
    have e82 := (eval_tmp FA 82).symm.trans ev82
    replace ev82 := Lib.hid ev82
    have ev84 : FA.eval (.tmp 84) = _ := hD 4 84 (by kernel_rfl)
    have e84 := (eval_tmp FA 84).symm.trans ev84
    replace ev84 := Lib.hid ev84
    clear hO hD
    go_simp
    exact hK.out _ _ (Ex.refl _) rfl
  apply Steps.one (MP.eq _) 7 rfl
  · intro o ho FA x hO hD K hK
    obtain rfl := Option.some.inj ho.symm
    clear ho
    have ev85 : FA.eval (.tmp 85) = _ := hD 5 85 (by kernel_rfl)
    have e85 := (eval_tmp FA 85).symm.trans ev85
    replace ev85 := Lib.hid ev85
    clear hO hD
    go_simp
    exact hK.out _ _ (Ex.refl _) rfl
  apply Steps.one (MP.eq _) 8 rfl
  · intro o ho FA x hO hD K hK
    obtain rfl := Option.some.inj ho.symm
    clear ho
    have e17 := hO 17 (by kernel_rfl)
    simp only [eval_tmp, List.getElem?_toArray, List.getElem?_cons_succ, List.getElem?_cons_zero, Option.getD_some] at e17
    have ev17 := Lib.hid ((eval_tmp FA 17).trans e17)
    have ev86 : FA.eval (.tmp 86) = _ := hD 6 86 (by kernel_rfl)
    have e86 := (eval_tmp FA 86).symm.trans ev86
    replace ev86 := Lib.hid ev86
    first | have ge86 := slot_of e86 | have ge86 := slot_un e86
    clear hO hD
    go_simp
    exact hK.out _ _ (Ex.refl _) rfl
  apply Steps.one (MP.eq _) 9 rfl
  · intro o ho FA x hO hD K hK
    obtain rfl := Option.some.inj ho.symm
    clear ho
    have ev87 : FA.eval (.tmp 87) = _ := hD 7 87 (by kernel_rfl)
    have e87 := (eval_tmp FA 87).symm.trans ev87
    replace ev87 := Lib.hid ev87
    have ev86 : FA.eval (.tmp 86) = _ := hD 6 86 (by kernel_rfl)
    have e86 := (eval_tmp FA 86).symm.trans ev86
    replace ev86 := Lib.hid ev86
    first | have ge86 := slot_of e86 | have ge86 := slot_un e86
    clear hO hD
    go_simp
    exact hK.out _ _ (Ex.refl _) rfl
  apply Steps.one (MP.eq _) 10 rfl
  · intro o ho FA x hO hD K hK
    obtain rfl := Option.some.inj ho.symm
    clear ho
    have ev86 : FA.eval (.tmp 86) = _ := hD 6 86 (by kernel_rfl)
    have e86 := (eval_tmp FA 86).symm.trans ev86
    replace ev86 := Lib.hid ev86
    have ev88 : FA.eval (.tmp 88) = _ := hD 8 88 (by kernel_rfl)
    have e88 := (eval_tmp FA 88).symm.trans ev88
    replace ev88 := Lib.hid ev88
    clear hO hD
    go_simp
    exact hK.out _ _ (Ex.refl _) rfl
  apply Steps.one (MP.eq _) 11 rfl
  · intro o ho FA x hO hD K hK
    obtain rfl := Option.some.inj ho.symm
    clear ho
    have ev89 : FA.eval (.tmp 89) = _ := hD 9 89 (by kernel_rfl)
    have e89 := (eval_tmp FA 89).symm.trans ev89
    replace ev89 := Lib.hid ev89
    clear hO hD
    go_simp
    exact hK.out _ _ (Ex.refl _) rfl
  apply Steps.one (MP.eq _) 12 rfl
  · intro o ho FA x hO hD K hK
    obtain rfl := Option.some.inj ho.symm
    clear ho
    have e20 := hO 20 (by kernel_rfl)
    simp only [eval_tmp, List.getElem?_toArray, List.getElem?_cons_succ, List.getElem?_cons_zero, Option.getD_some] at e20
    have ev20 := Lib.hid ((eval_tmp FA 20).trans e20)
    have ev90 : FA.eval (.tmp 90) = _ := hD 10 90 (by kernel_rfl)
    have e90 := (eval_tmp FA 90).symm.trans ev90
    replace ev90 := Lib.hid ev90
    first | have ge90 := slot_of e90 | have ge90 := slot_un e90
    clear hO hD
    go_simp
    exact hK.out _ _ (Ex.refl _) rfl
  apply Steps.one (MP.eq _) 13 rfl
  · intro o ho FA x hO hD K hK
    obtain rfl := Option.some.inj ho.symm
    clear ho
    have ev91 : FA.eval (.tmp 91) = _ := hD 11 91 (by kernel_rfl)
    have e91 := (eval_tmp FA 91).symm.trans ev91
    replace ev91 := Lib.hid ev91
    have ev90 : FA.eval (.tmp 90) = _ := hD 10 90 (by kernel_rfl)
    have e90 := (eval_tmp FA 90).symm.trans ev90
    replace ev90 := Lib.hid ev90
    first | have ge90 := slot_of e90 | have ge90 := slot_un e90
    clear hO hD
    go_simp
    exact hK.out _ _ (Ex.refl _) rfl
  apply Steps.one (MP.eq _) 14 rfl
  · intro o ho FA x hO hD K hK
    obtain rfl := Option.some.inj ho.symm
    clear ho
    have ev90 : FA.eval (.tmp 90) = _ := hD 10 90 (by kernel_rfl)
    have e90 := (eval_tmp FA 90).symm.trans ev90
    replace ev90 := Lib.hid ev90
    have ev92 : FA.eval (.tmp 92) = _ := hD 12 92 (by kernel_rfl)
    have e92 := (eval_tmp FA 92).symm.trans ev92
    replace ev92 := Lib.hid ev92
    clear hO hD
    go_simp
    exact hK.out _ _ (Ex.refl _) rfl
  apply Steps.one (MP.eq _) 15 rfl
  · intro o ho FA x hO hD K hK
    obtain rfl := Option.some.inj ho.symm
    clear ho
    have ev93 : FA.eval (.tmp 93) = _ := hD 13 93 (by kernel_rfl)
    have e93 := (eval_tmp FA 93).symm.trans ev93
    replace ev93 := Lib.hid ev93
    clear hO hD
    go_simp
    exact hK.out _ _ (Ex.refl _) rfl
  apply Steps.one (MP.eq _) 16 rfl
  · intro o ho FA x hO hD K hK
    obtain rfl := Option.some.inj ho.symm
    clear ho
    have e16 := hO 16 (by kernel_rfl)
    simp only [eval_tmp, List.getElem?_toArray, List.getElem?_cons_succ, List.getElem?_cons_zero, Option.getD_some] at e16
    have ev16 := Lib.hid ((eval_tmp FA 16).trans e16)
    have ev94 : FA.eval (.tmp 94) = _ := hD 14 94 (by kernel_rfl)
    have e94 := (eval_tmp FA 94).symm.trans ev94
    replace ev94 := Lib.hid ev94
    first | have ge94 := slot_of e94 | have ge94 := slot_un e94
    clear hO hD
    first | (refine wanted_ifG ?_ ?_; (· go_simp); refine wp_ldA 126 (.tmp 16) rfl (wyC t6 th tl2 e6 eh el ul) ev16.out (hM.later (below_plus _ _ _)) (whole_ _) y1 y2 (szWy _ _ _ _ _ _ _) ?_; exact hK.out _ _ (Ex.refl _) rfl) | (go_simp; exact hK.out _ _ (Ex.refl _) rfl)
  apply Steps.one (MP.eq _) 17 rfl
  · intro o ho FA x hO hD K hK
    obtain rfl := Option.some.inj ho.symm
    clear ho
    have e5 := hO 5 (by kernel_rfl)
    simp only [eval_tmp, List.getElem?_toArray, List.getElem?_cons_succ, List.getElem?_cons_zero, Option.getD_some] at e5
    have ev5 := Lib.hid ((eval_tmp FA 5).trans e5)
    have ev94 : FA.eval (.tmp 94) = _ := hD 14 94 (by kernel_rfl)
    have e94 := (eval_tmp FA 94).symm.trans ev94
    replace ev94 := Lib.hid ev94
    first | have ge94 := slot_of e94 | have ge94 := slot_un e94
    clear hO hD
    first | (refine wanted_ifG ?_ ?_; (· go_simp); refine wp_ldA 129 (.tmp 5) rfl (wyC t6 th tl2 e6 eh el ul) ev5.out (hV.later (below_plus _ _ _)) (whole_ _) r1 r2 (szRWy _ _ _ _ _ _ _) ?_; exact hK.out _ _ (Ex.refl _) rfl) | (go_simp; exact hK.out _ _ (Ex.refl _) rfl)
  apply Steps.one (MP.eq _) 18 rfl
  · intro o ho FA x hO hD K hK
    obtain rfl := Option.some.inj ho.symm
    clear ho
    have ev96 : FA.eval (.tmp 96) = _ := hD 16 96 (by kernel_rfl)
    have e96 := (eval_tmp FA 96).symm.trans ev96
    replace ev96 := Lib.hid ev96
    have ev94 : FA.eval (.tmp 94) = _ := hD 14 94 (by kernel_rfl)
    have e94 := (eval_tmp FA 94).symm.trans ev94
    replace ev94 := Lib.hid ev94
    first | have ge94 := slot_of e94 | have ge94 := slot_un e94
    clear hO hD
    first | (go_simp; exact hK.out _ _ (Ex.refl _) rfl) | (go_simp; refine (HTV.out _).mono ?_; rintro e w1 ⟨bs2, d2, rfl, rfl⟩; exact hK.out _ _ (Ex.plus_ _ _ _) rfl)
  apply Steps.one (MP.eq _) 19 rfl
  · intro o ho FA x hO hD K hK
    obtain rfl := Option.some.inj ho.symm
    clear ho
    have ev95 : FA.eval (.tmp 95) = _ := hD 15 95 (by kernel_rfl)
    have e95 := (eval_tmp FA 95).symm.trans ev95
    replace ev95 := Lib.hid ev95
    have ev97 : FA.eval (.tmp 97) = _ := hD 17 97 (by kernel_rfl)
    have e97 := (eval_tmp FA 97).symm.trans ev97
    replace ev97 := Lib.hid ev97
    have ev94 : FA.eval (.tmp 94) = _ := hD 14 94 (by kernel_rfl)
    have e94 := (eval_tmp FA 94).symm.trans ev94
    replace ev94 := Lib.hid ev94
    first | have ge94 := slot_of e94 | have ge94 := slot_un e94
    clear hO hD
    go_simp
    exact hK.out _ _ (Ex.refl _) rfl
  apply Steps.one (MP.eq _) 20 rfl
  · intro o ho FA x hO hD K hK
    obtain rfl := Option.some.inj ho.symm
    clear ho
    have ev94 : FA.eval (.tmp 94) = _ := hD 14 94 (by kernel_rfl)
    have e94 := (eval_tmp FA 94).symm.trans ev94
    replace ev94 := Lib.hid ev94
    have ev98 : FA.eval (.tmp 98) = _ := hD 18 98 (by kernel_rfl)
    have e98 := (eval_tmp FA 98).symm.trans ev98
    replace ev98 := Lib.hid ev98
    clear hO hD
    go_simp
    exact hK.out _ _ (Ex.refl _) rfl
  apply Steps.one (MP.eq _) 21 rfl
  · intro o ho FA x hO hD K hK
    obtain rfl := Option.some.inj ho.symm
    clear ho
    have ev99 : FA.eval (.tmp 99) = _ := hD 19 99 (by kernel_rfl)
    have e99 := (eval_tmp FA 99).symm.trans ev99
    replace ev99 := Lib.hid ev99
    clear hO hD
    go_simp
    exact hK.out _ _ (Ex.refl _) rfl
  apply Steps.one (MP.eq _) 22 rfl
  · intro o ho FA x hO hD K hK
    obtain rfl := Option.some.inj ho.symm
    clear ho
    have e19 := hO 19 (by kernel_rfl)
    simp only [eval_tmp, List.getElem?_toArray, List.getElem?_cons_succ, List.getElem?_cons_zero, Option.getD_some] at e19
    have ev19 := Lib.hid ((eval_tmp FA 19).trans e19)
    have ev100 : FA.eval (.tmp 100) = _ := hD 20 100 (by kernel_rfl)
    have e100 := (eval_tmp FA 100).symm.trans ev100
    replace ev100 := Lib.hid ev100
    first | have ge100 := slot_of e100 | have ge100 := slot_un e100
    clear hO hD
    first | (refine wanted_ifG ?_ ?_; (· go_simp); refine wp_ldA 126 (.tmp 19) rfl (wyC s6 sh sl d6 dh dl tl) ev19.out (hN.later (below_plus _ _ _)) (whole_ _) y1 y2 (szWy _ _ _ _ _ _ _) ?_; exact hK.out _ _ (Ex.refl _) rfl) | (go_simp; exact hK.out _ _ (Ex.refl _) rfl)
  apply Steps.one (MP.eq _) 23 rfl
  · intro o ho FA x hO hD K hK
    obtain rfl := Option.some.inj ho.symm
    clear ho
    have e4 := hO 4 (by kernel_rfl)
    simp only [eval_tmp, List.getElem?_toArray, List.getElem?_cons_succ, List.getElem?_cons_zero, Option.getD_some] at e4
    have ev4 := Lib.hid ((eval_tmp FA 4).trans e4)
    have ev100 : FA.eval (.tmp 100) = _ := hD 20 100 (by kernel_rfl)
    have e100 := (eval_tmp FA 100).symm.trans ev100
    replace ev100 := Lib.hid ev100
    first | have ge100 := slot_of e100 | have ge100 := slot_un e100
    clear hO hD
    first | (refine wanted_ifG ?_ ?_; (· go_simp); refine wp_ldA 129 (.tmp 4) rfl (wyC s6 sh sl d6 dh dl tl) ev4.out (hW.later (below_plus _ _ _)) (whole_ _) r1 r2 (szRWy _ _ _ _ _ _ _) ?_; exact hK.out _ _ (Ex.refl _) rfl) | (go_simp; exact hK.out _ _ (Ex.refl _) rfl)
  apply Steps.one (MP.eq _) 24 rfl
  · intro o ho FA x hO hD K hK
    obtain rfl := Option.some.inj ho.symm
    clear ho
    have ev102 : FA.eval (.tmp 102) = _ := hD 22 102 (by kernel_rfl)
    have e102 := (eval_tmp FA 102).symm.trans ev102
    replace ev102 := Lib.hid ev102
    have ev100 : FA.eval (.tmp 100) = _ := hD 20 100 (by kernel_rfl)
    have e100 := (eval_tmp FA 100).symm.trans ev100
    replace ev100 := Lib.hid ev100
    first | have ge100 := slot_of e100 | have ge100 := slot_un e100
    clear hO hD
    first | (go_simp; exact hK.out _ _ (Ex.refl _) rfl) | (go_simp; refine (HTW.out _).mono ?_; rintro e w1 ⟨bs2, d2, rfl, rfl⟩; exact hK.out _ _ (Ex.plus_ _ _ _) rfl)
  apply Steps.one (MP.eq _) 25 rfl
  · intro o ho FA x hO hD K hK
    obtain rfl := Option.some.inj ho.symm
    clear ho
    have ev101 : FA.eval (.tmp 101) = _ := hD 21 101 (by kernel_rfl)
    have e101 := (eval_tmp FA 101).symm.trans ev101
    replace ev101 := Lib.hid ev101
    have ev103 : FA.eval (.tmp 103) = _ := hD 23 103 (by kernel_rfl)
    have e103 := (eval_tmp FA 103).symm.trans ev103
    replace ev103 := Lib.hid ev103
    have ev100 : FA.eval (.tmp 100) = _ := hD 20 100 (by kernel_rfl)
    have e100 := (eval_tmp FA 100).symm.trans ev100
    replace ev100 := Lib.hid ev100
    first | have ge100 := slot_of e100 | have ge100 := slot_un e100
    clear hO hD
    go_simp
    exact hK.out _ _ (Ex.refl _) rfl
  apply Steps.one (MP.eq _) 26 rfl
  · intro o ho FA x hO hD K hK
    obtain rfl := Option.some.inj ho.symm
    clear ho
    have ev100 : FA.eval (.tmp 100) = _ := hD 20 100 (by kernel_rfl)
    have e100 := (eval_tmp FA 100).symm.trans ev100
    replace ev100 := Lib.hid ev100
    have ev104 : FA.eval (.tmp 104) = _ := hD 24 104 (by kernel_rfl)
    have e104 := (eval_tmp FA 104).symm.trans ev104
    replace ev104 := Lib.hid ev104
    clear hO hD
    go_simp
    exact hK.out _ _ (Ex.refl _) rfl
  apply Steps.one (MP.eq _) 27 rfl
  · intro o ho FA x hO hD K hK
    obtain rfl := Option.some.inj ho.symm
    clear ho
    have ev105 : FA.eval (.tmp 105) = _ := hD 25 105 (by kernel_rfl)
    have e105 := (eval_tmp FA 105).symm.trans ev105
    replace ev105 := Lib.hid ev105
    clear hO hD
    go_simp
    exact hK.out _ _ (Ex.refl _) rfl
  apply Steps.one (MP.eq _) 28 rfl
  · intro o ho FA x hO hD K hK
    obtain rfl := Option.some.inj ho.symm
    clear ho
    have e18 := hO 18 (by kernel_rfl)
    simp only [eval_tmp, List.getElem?_toArray, List.getElem?_cons_succ, List.getElem?_cons_zero, Option.getD_some] at e18
    have ev18 := Lib.hid ((eval_tmp FA 18).trans e18)
    have ev106 : FA.eval (.tmp 106) = _ := hD 26 106 (by kernel_rfl)
    have e106 := (eval_tmp FA 106).symm.trans ev106
    replace ev106 := Lib.hid ev106
    first | have ge106 := slot_of e106 | have ge106 := slot_un e106
    clear hO hD
    go_simp
    exact hK.out _ _ (Ex.refl _) rfl
  apply Steps.one (MP.eq _) 29 rfl
  · intro o ho FA x hO hD K hK
    obtain rfl := Option.some.inj ho.symm
    clear ho
    have ev107 : FA.eval (.tmp 107) = _ := hD 27 107 (by kernel_rfl)
    have e107 := (eval_tmp FA 107).symm.trans ev107
    replace ev107 := Lib.hid ev107
    have ev106 : FA.eval (.tmp 106) = _ := hD 26 106 (by kernel_rfl)
    have e106 := (eval_tmp FA 106).symm.trans ev106
    replace ev106 := Lib.hid ev106
    first | have ge106 := slot_of e106 | have ge106 := slot_un e106
    clear hO hD
    have es := run_str bt Try.underlying9 (hy.plus_ x.bs x.d)
    go_simp
    exact hK.out _ _ (Ex.refl _) rfl
  apply Steps.one (MP.eq _) 30 rfl
  · intro o ho FA x hO hD K hK
    obtain rfl := Option.some.inj ho.symm
    clear ho
    have e9 := hO 9 (by kernel_rfl)
    simp only [eval_tmp, List.getElem?_toArray, List.getElem?_cons_succ, List.getElem?_cons_zero, Option.getD_some] at e9
    have ev9 := Lib.hid ((eval_tmp FA 9).trans e9)
    have ev106 : FA.eval (.tmp 106) = _ := hD 26 106 (by kernel_rfl)
    have e106 := (eval_tmp FA 106).symm.trans ev106
    replace ev106 := Lib.hid ev106
    first | have ge106 := slot_of e106 | have ge106 := slot_un e106
    clear hO hD
    go_simp
    exact hK.out _ _ (Ex.refl _) rfl
  apply Steps.one (MP.eq _) 31 rfl
  · intro o ho FA x hO hD K hK
    obtain rfl := Option.some.inj ho.symm
    clear ho
    have ev109 : FA.eval (.tmp 109) = _ := hD 29 109 (by kernel_rfl)
    have e109 := (eval_tmp FA 109).symm.trans ev109
    replace ev109 := Lib.hid ev109
    have ev106 : FA.eval (.tmp 106) = _ := hD 26 106 (by kernel_rfl)
    have e106 := (eval_tmp FA 106).symm.trans ev106
    replace ev106 := Lib.hid ev106
    first | have ge106 := slot_of e106 | have ge106 := slot_un e106
    clear hO hD
    have es := run_str bt Try.underlying9 (hb.plus_ x.bs x.d)
    go_simp
    exact hK.out _ _ (Ex.refl _) rfl
  apply Steps.one (MP.eq _) 32 rfl
  · intro o ho FA x hO hD K hK
    obtain rfl := Option.some.inj ho.symm
    clear ho
    have ev108 : FA.eval (.tmp 108) = _ := hD 28 108 (by kernel_rfl)
    have e108 := (eval_tmp FA 108).symm.trans ev108
    replace ev108 := Lib.hid ev108
    have ev110 : FA.eval (.tmp 110) = _ := hD 30 110 (by kernel_rfl)
    have e110 := (eval_tmp FA 110).symm.trans ev110
    replace ev110 := Lib.hid ev110
    have ev106 : FA.eval (.tmp 106) = _ := hD 26 106 (by kernel_rfl)
    have e106 := (eval_tmp FA 106).symm.trans ev106
    replace ev106 := Lib.hid ev106
    first | have ge106 := slot_of e106 | have ge106 := slot_un e106
    clear hO hD
    go_simp
    exact hK.out _ _ (Ex.refl _) rfl
  apply Steps.one (MP.eq _) 33 rfl
  · intro o ho FA x hO hD K hK
    obtain rfl := Option.some.inj ho.symm
    clear ho
    have ev106 : FA.eval (.tmp 106) = _ := hD 26 106 (by kernel_rfl)
    have e106 := (eval_tmp FA 106).symm.trans ev106
    replace ev106 := Lib.hid ev106
    have ev111 : FA.eval (.tmp 111) = _ := hD 31 111 (by kernel_rfl)
    have e111 := (eval_tmp FA 111).symm.trans ev111
    replace ev111 := Lib.hid ev111
    clear hO hD
    go_simp
    exact hK.out _ _ (Ex.refl _) rfl
  apply Steps.one (MP.eq _) 34 rfl
  · intro o ho FA x hO hD K hK
    obtain rfl := Option.some.inj ho.symm
    clear ho
    have ev112 : FA.eval (.tmp 112) = _ := hD 32 112 (by kernel_rfl)
    have e112 := (eval_tmp FA 112).symm.trans ev112
    replace ev112 := Lib.hid ev112
    clear hO hD
    go_simp
    exact hK.out _ _ (Ex.refl _) rfl
  apply Steps.one (MP.eq _) 35 rfl
  · intro o ho FA x hO hD K hK
    obtain rfl := Option.some.inj ho.symm
    clear ho
    have ev113 : FA.eval (.tmp 113) = _ := hD 33 113 (by kernel_rfl)
    have e113 := (eval_tmp FA 113).symm.trans ev113
    replace ev113 := Lib.hid ev113
    first | have ge113 := slot_of e113 | have ge113 := slot_un e113
    clear hO hD
    first | (go_simp; exact hK.out _ _ (Ex.refl _) rfl) | (go_simp; refine (HAW.out _).mono ?_; rintro e w1 ⟨bs2, d2, rfl, rfl⟩; exact hK.out _ _ (Ex.plus_ _ _ _) rfl)
  apply Steps.one (MP.eq _) 36 rfl
  · intro o ho FA x hO hD K hK
    obtain rfl := Option.some.inj ho.symm
    clear ho
    have ev113 : FA.eval (.tmp 113) = _ := hD 33 113 (by kernel_rfl)
    have e113 := (eval_tmp FA 113).symm.trans ev113
    replace ev113 := Lib.hid ev113
    have ev114 : FA.eval (.tmp 114) = _ := hD 34 114 (by kernel_rfl)
    have e114 := (eval_tmp FA 114).symm.trans ev114
    replace ev114 := Lib.hid ev114
    clear hO hD
    go_simp
    exact hK.out _ _ (Ex.refl _) rfl
  apply Steps.one (MP.eq _) 37 rfl
  · intro o ho FA x hO hD K hK
    obtain rfl := Option.some.inj ho.symm
    clear ho
    have ev115 : FA.eval (.tmp 115) = _ := hD 35 115 (by kernel_rfl)
    have e115 := (eval_tmp FA 115).symm.trans ev115
    replace ev115 := Lib.hid ev115
    clear hO hD
    go_simp
    exact hK.out _ _ (Ex.refl _) rfl
  refine Steps.fin_ (fun vs x hp => ?_)
  have p0 : vs 0 = _ := hp 0 (by omega)
  have p1 : vs 1 = _ := hp 1 (by omega)
  have p2 : vs 2 = _ := hp 2 (by omega)
  have p3 : vs 3 = _ := hp 3 (by omega)
  have p4 : vs 4 = _ := hp 4 (by omega)
  have p5 : vs 5 = _ := hp 5 (by omega)
  have p6 : vs 6 = _ := hp 6 (by omega)
  have p7 : vs 7 = _ := hp 7 (by omega)
  have p8 : vs 8 = _ := hp 8 (by omega)
  have p9 : vs 9 = _ := hp 9 (by omega)
  have p10 : vs 10 = _ := hp 10 (by omega)
  have p11 : vs 11 = _ := hp 11 (by omega)
  have p12 : vs 12 = _ := hp 12 (by omega)
  have p13 : vs 13 = _ := hp 13 (by omega)
  have p14 : vs 14 = _ := hp 14 (by omega)
  have p15 : vs 15 = _ := hp 15 (by omega)
  have p16 : vs 16 = _ := hp 16 (by omega)
  have p17 : vs 17 = _ := hp 17 (by omega)
  have p18 : vs 18 = _ := hp 18 (by omega)
  have p19 : vs 19 = _ := hp 19 (by omega)
  have p20 : vs 20 = _ := hp 20 (by omega)
  have p21 : vs 21 = _ := hp 21 (by omega)
  have p22 : vs 22 = _ := hp 22 (by omega)
  have p23 : vs 23 = _ := hp 23 (by omega)
  have p24 : vs 24 = _ := hp 24 (by omega)
  have p25 : vs 25 = _ := hp 25 (by omega)
  have p26 : vs 26 = _ := hp 26 (by omega)
  have p27 : vs 27 = _ := hp 27 (by omega)
  have p28 : vs 28 = _ := hp 28 (by omega)
  have p29 : vs 29 = _ := hp 29 (by omega)
  have p30 : vs 30 = _ := hp 30 (by omega)
  have p31 : vs 31 = _ := hp 31 (by omega)
  have p32 : vs 32 = _ := hp 32 (by omega)
  have p33 : vs 33 = _ := hp 33 (by omega)
  have p34 : vs 34 = _ := hp 34 (by omega)
  have p35 : vs 35 = _ := hp 35 (by omega)
  have p36 : vs 36 = _ := hp 36 (by omega)
  clear hp
  simp only [List.take_succ_cons, List.take_zero, List.drop_succ_cons, List.drop_zero, putAll, Nat.zero_add, Nat.reduceAdd, Act.put, List.setIfInBounds_toArray, List.set_cons_zero, List.set_cons_succ, p0, p1, p2, p3, p4, p5, p6, p7, p8, p9, p10, p11, p12, p13, p14, p15, p16, p17, p18, p19, p20, p21, p22, p23, p24, p25, p26, p27, p28, p29, p30, p31, p32, p33, p34, p35, p36]
  clear p0 p1 p2 p3 p4 p5 p6 p7 p8 p9 p10 p11 p12 p13 p14 p15 p16 p17 p18 p19 p20 p21 p22 p23 p24 p25 p26 p27 p28 p29 p30 p31 p32 p33 p34 p35 p36
  clear vs
  go_wp2
  go_ret
  exact ⟨rfl, belowP be _ _⟩
end Go.Proofs.Ytldecdeiibfekaa
