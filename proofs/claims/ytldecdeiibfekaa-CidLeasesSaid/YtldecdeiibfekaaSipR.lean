/- The reference's round of siphash. -/
import Derived.Test.YtldecdeiibfekaaSipS
namespace Go.Proofs.Ytldecdeiibfekaa
open Go.RowKit
set_option linter.unusedVariables false
attribute [local go_sem ↓] sliced_cut
attribute [local go_sem] cutA_zero wadd wxor

set_option maxHeartbeats 4000000 in
set_option maxRecDepth 100000 in
theorem refRound_any (v : W4) (w : World) : Calls Try.prog 182 #[.agg #[.int .u64 (v.a.toNat : Int), .int .u64 (v.b.toNat : Int), .int .u64 (v.c.toNat : Int), .int .u64 (v.d.toNat : Int)]] w
    (RetV w (.agg #[.int .u64 ((sround v).a.toNat : Int), .int .u64 ((sround v).b.toNat : Int), .int .u64 ((sround v).c.toNat : Int), .int .u64 ((sround v).d.toNat : Int)])) := by
  go_enter Try.func182, Try.ntmps182
  go_wp2_with (go_at_call 186; refine (turn32 _ _).mono ?_; rintro e w' ⟨rfl, rfl⟩)
  refine wp_tail 7 (by kernel_rfl) (by kernel_rfl) ?_
  simp only [List.take_succ_cons, List.take_zero, List.drop_succ_cons, List.drop_zero]
  repeat (first | still_step | still_call (still_of (turn13 _ _)))
  refine wpStill_nil ?_
  go_wp2_with (go_at_call 186; refine (turn32 _ _).mono ?_; rintro e w' ⟨rfl, rfl⟩)
  refine wp_tail 7 (by kernel_rfl) (by kernel_rfl) ?_
  simp only [List.take_succ_cons, List.take_zero, List.drop_succ_cons, List.drop_zero]
  repeat (first | still_step | still_call (still_of (turn16 _ _)))
  refine wpStill_nil ?_
  go_wp2_with (go_at_call 186; refine (turn32 _ _).mono ?_; rintro e w' ⟨rfl, rfl⟩)
  refine wp_tail 7 (by kernel_rfl) (by kernel_rfl) ?_
  simp only [List.take_succ_cons, List.take_zero, List.drop_succ_cons, List.drop_zero]
  repeat (first | still_step | still_call (still_of (turn21 _ _)))
  refine wpStill_nil ?_
  go_wp2_with (go_at_call 186; refine (turn32 _ _).mono ?_; rintro e w' ⟨rfl, rfl⟩)
  refine wp_tail 7 (by kernel_rfl) (by kernel_rfl) ?_
  simp only [List.take_succ_cons, List.take_zero, List.drop_succ_cons, List.drop_zero]
  repeat (first | still_step | still_call (still_of (turn17 _ _)))
  refine wpStill_nil ?_
  go_wp2_with (go_at_call 186; refine (turn32 _ _).mono ?_; rintro e w' ⟨rfl, rfl⟩)
  refine bodyPost_ret (v := .agg #[.int .u64 ((sround v).a.toNat : Int), .int .u64 ((sround v).b.toNat : Int), .int .u64 ((sround v).c.toNat : Int), .int .u64 ((sround v).d.toNat : Int)]) (by simp [results, Try.results182, go_sem, sround, st0, st1, st2, st3, st4, st5, st6, st7, st8, st9]) rfl (RetV.mk ?_)
  repeat (first | exact Below.refl _ _ | refine Below.setCell ?_ (by simp) _ | refine belowN ?_ _ | refine Below.drew ?_ | refine Below.alloc ?_ (by simp) _)
end Go.Proofs.Ytldecdeiibfekaa
