/- The reference's At of chapter 11. -/
import Derived.Test.YtldecdeiibfekaaRingA
namespace Go.Proofs.Ytldecdeiibfekaa
open Go.RowKit
set_option linter.unusedVariables false
set_option linter.unusedSimpArgs false
attribute [local go_sem ↓] sliced_cut
attribute [local go_sem] cutA_zero

theorem szArr (key : List UInt8) (hk : K16 key) : (Try.prog.info? 49).map (·.size) = some (bcs key).length := by rw [bcs_length, show key.length = 16 from hk]; kernel_rfl
set_option maxHeartbeats 1000000 in
set_option maxRecDepth 100000 in
theorem refAt_now0 (key : List UInt8) (hk : K16 key) (n : Nat) (b : Int) (w : World) (hn : n < 18446744073709551616) (hm : n % 2 = 0) (hb : b = 0) : Calls Try.prog 111 #[.agg (ringC key n).toArray, .int .i64 b] w (RetV w (.tuple #[.agg (bcs (derK key n)).toArray, .bool true])) := by
  have q := ringC_16 key hk n
  obtain ⟨dk, u1, u2, u3⟩ := row16
  subst hb
  have t1 : ((n : Int) % 2) = 0 := by omega
  clear hm
  have hb0 : Bk ((w.alloc (.cells (ringC key n).toArray 51)).alloc (.cells #[.int .u8 0, .int .u8 0, .int .u8 0, .int .u8 0, .int .u8 0, .int .u8 0, .int .u8 0, .int .u8 0, .int .u8 0, .int .u8 0, .int .u8 0, .int .u8 0, .int .u8 0, .int .u8 0, .int .u8 0, .int .u8 0] 49)) w.heap.size 51 (ringC key n) := (Bk.new w 51 (ringC key n).toArray).alloc _
  have hb1 : Bk ((w.alloc (.cells (ringC key n).toArray 51)).alloc (.cells #[.int .u8 0, .int .u8 0, .int .u8 0, .int .u8 0, .int .u8 0, .int .u8 0, .int .u8 0, .int .u8 0, .int .u8 0, .int .u8 0, .int .u8 0, .int .u8 0, .int .u8 0, .int .u8 0, .int .u8 0, .int .u8 0] 49)) (w.heap.size + 1) 49 (bcs key0) := by
    have := Bk.new (w.alloc (.cells (ringC key n).toArray 51)) 49 #[.int .u8 0, .int .u8 0, .int .u8 0, .int .u8 0, .int .u8 0, .int .u8 0, .int .u8 0, .int .u8 0, .int .u8 0, .int .u8 0, .int .u8 0, .int .u8 0, .int .u8 0, .int .u8 0, .int .u8 0, .int .u8 0]
    rw [World.size_alloc] at this
    exact this
  go_enter Try.func111, Try.ntmps111
  go_wp2_with (first
    | (refine at_op (.load 49 (.tmp 26)) rfl ?_; refine wpList_ldA (t := 51) 49 (.tmp 26) rfl rfl (bcs key) rfl ?_ (ringC_key key n) u1 u2 (szArr key hk) ?_; (· with_reducible repeat (first | exact hb0 | refine Bk.later ?_ (below_plus _ _ _))))
    | (go_at_call 160; refine (refDerive_any key hk n _ hn).mono ?_; rintro e w1 ⟨bs2, d2, rfl, rfl⟩)
    | (refine at_op (.store 49 (.tmp 4) (.tmp 29)) rfl ?_; refine wpList_stA (t := 49) 49 (.tmp 4) (.tmp 29) rfl rfl (bcs (derK key n)) (bcs key0) (by rw [derK_length]; rfl) (bcs_one _) rfl rfl ?_ (szArr _ (K16_of _ _)) ?_; (· with_reducible repeat (first | exact hb1 | refine Bk.later ?_ (below_plus _ _ _))); intro w2 hb2 hg2))
  refine bodyPost_agg2 Try.results111 rfl rfl hb2.range u1 u2 (szArr _ (by first | exact K16_of _ _ | exact K16_0)) rfl (RetV.mk ?_)
  refine below_grown ?_ hg2 (by omega)
  repeat (first | exact Below.refl _ _ | refine belowP ?_ _ _ | refine Below.alloc ?_ (by simp) _)
set_option maxHeartbeats 1000000 in
set_option maxRecDepth 100000 in
theorem refAt_then0 (key : List UInt8) (hk : K16 key) (n : Nat) (b : Int) (w : World) (hn : n < 18446744073709551616) (hm : n % 2 = 1) (hb : b = 0) (h0 : n ≠ 0) : Calls Try.prog 111 #[.agg (ringC key n).toArray, .int .i64 b] w (RetV w (.tuple #[.agg (bcs (derK key (n - 1))).toArray, .bool true])) := by
  have q := ringC_16 key hk n
  obtain ⟨dk, u1, u2, u3⟩ := row16
  subst hb
  have t1 : ((n : Int) % 2) = 1 := by omega
  have t2 : ((n : Int) == 0) = false := beq_eq_false_iff_ne.2 (by omega)
  have t3 : (1 : Int) ≤ n := by omega
  have hn1 : n - 1 < 18446744073709551616 := by omega
  have HE1 := Lib.hid (show (n : Int) - 1 = ((n - 1 : Nat) : Int) by omega)
  clear hm
  have hb0 : Bk ((w.alloc (.cells (ringC key n).toArray 51)).alloc (.cells #[.int .u8 0, .int .u8 0, .int .u8 0, .int .u8 0, .int .u8 0, .int .u8 0, .int .u8 0, .int .u8 0, .int .u8 0, .int .u8 0, .int .u8 0, .int .u8 0, .int .u8 0, .int .u8 0, .int .u8 0, .int .u8 0] 49)) w.heap.size 51 (ringC key n) := (Bk.new w 51 (ringC key n).toArray).alloc _
  have hb1 : Bk ((w.alloc (.cells (ringC key n).toArray 51)).alloc (.cells #[.int .u8 0, .int .u8 0, .int .u8 0, .int .u8 0, .int .u8 0, .int .u8 0, .int .u8 0, .int .u8 0, .int .u8 0, .int .u8 0, .int .u8 0, .int .u8 0, .int .u8 0, .int .u8 0, .int .u8 0, .int .u8 0] 49)) (w.heap.size + 1) 49 (bcs key0) := by
    have := Bk.new (w.alloc (.cells (ringC key n).toArray 51)) 49 #[.int .u8 0, .int .u8 0, .int .u8 0, .int .u8 0, .int .u8 0, .int .u8 0, .int .u8 0, .int .u8 0, .int .u8 0, .int .u8 0, .int .u8 0, .int .u8 0, .int .u8 0, .int .u8 0, .int .u8 0, .int .u8 0]
    rw [World.size_alloc] at this
    exact this
  go_enter Try.func111, Try.ntmps111
  go_wp2_with (first
    | (refine at_op (.load 49 (.tmp 26)) rfl ?_; refine wpList_ldA (t := 51) 49 (.tmp 26) rfl rfl (bcs key) rfl ?_ (ringC_key key n) u1 u2 (szArr key hk) ?_; (· with_reducible repeat (first | exact hb0 | refine Bk.later ?_ (below_plus _ _ _))))
    | (go_at_call 160; rw [HE1.out]; refine (refDerive_any key hk (n - 1) _ hn1).mono ?_; rintro e w1 ⟨bs2, d2, rfl, rfl⟩)
    | (refine at_op (.store 49 (.tmp 4) (.tmp 29)) rfl ?_; refine wpList_stA (t := 49) 49 (.tmp 4) (.tmp 29) rfl rfl (bcs (derK key (n - 1))) (bcs key0) (by rw [derK_length]; rfl) (bcs_one _) rfl rfl ?_ (szArr _ (K16_of _ _)) ?_; (· with_reducible repeat (first | exact hb1 | refine Bk.later ?_ (below_plus _ _ _))); intro w2 hb2 hg2))
  refine bodyPost_agg2 Try.results111 rfl rfl hb2.range u1 u2 (szArr _ (by first | exact K16_of _ _ | exact K16_0)) rfl (RetV.mk ?_)
  refine below_grown ?_ hg2 (by omega)
  repeat (first | exact Below.refl _ _ | refine belowP ?_ _ _ | refine Below.alloc ?_ (by simp) _)
set_option maxHeartbeats 1000000 in
set_option maxRecDepth 100000 in
theorem refAt_now1 (key : List UInt8) (hk : K16 key) (n : Nat) (b : Int) (w : World) (hn : n < 18446744073709551616) (hm : n % 2 = 1) (hb : b = 1) : Calls Try.prog 111 #[.agg (ringC key n).toArray, .int .i64 b] w (RetV w (.tuple #[.agg (bcs (derK key n)).toArray, .bool true])) := by
  have q := ringC_16 key hk n
  obtain ⟨dk, u1, u2, u3⟩ := row16
  subst hb
  have t1 : ((n : Int) % 2) = 1 := by omega
  clear hm
  have hb0 : Bk ((w.alloc (.cells (ringC key n).toArray 51)).alloc (.cells #[.int .u8 0, .int .u8 0, .int .u8 0, .int .u8 0, .int .u8 0, .int .u8 0, .int .u8 0, .int .u8 0, .int .u8 0, .int .u8 0, .int .u8 0, .int .u8 0, .int .u8 0, .int .u8 0, .int .u8 0, .int .u8 0] 49)) w.heap.size 51 (ringC key n) := (Bk.new w 51 (ringC key n).toArray).alloc _
  have hb1 : Bk ((w.alloc (.cells (ringC key n).toArray 51)).alloc (.cells #[.int .u8 0, .int .u8 0, .int .u8 0, .int .u8 0, .int .u8 0, .int .u8 0, .int .u8 0, .int .u8 0, .int .u8 0, .int .u8 0, .int .u8 0, .int .u8 0, .int .u8 0, .int .u8 0, .int .u8 0, .int .u8 0] 49)) (w.heap.size + 1) 49 (bcs key0) := by
    have := Bk.new (w.alloc (.cells (ringC key n).toArray 51)) 49 #[.int .u8 0, .int .u8 0, .int .u8 0, .int .u8 0, .int .u8 0, .int .u8 0, .int .u8 0, .int .u8 0, .int .u8 0, .int .u8 0, .int .u8 0, .int .u8 0, .int .u8 0, .int .u8 0, .int .u8 0, .int .u8 0]
    rw [World.size_alloc] at this
    exact this
  go_enter Try.func111, Try.ntmps111
  go_wp2_with (first
    | (refine at_op (.load 49 (.tmp 26)) rfl ?_; refine wpList_ldA (t := 51) 49 (.tmp 26) rfl rfl (bcs key) rfl ?_ (ringC_key key n) u1 u2 (szArr key hk) ?_; (· with_reducible repeat (first | exact hb0 | refine Bk.later ?_ (below_plus _ _ _))))
    | (go_at_call 160; refine (refDerive_any key hk n _ hn).mono ?_; rintro e w1 ⟨bs2, d2, rfl, rfl⟩)
    | (refine at_op (.store 49 (.tmp 4) (.tmp 29)) rfl ?_; refine wpList_stA (t := 49) 49 (.tmp 4) (.tmp 29) rfl rfl (bcs (derK key n)) (bcs key0) (by rw [derK_length]; rfl) (bcs_one _) rfl rfl ?_ (szArr _ (K16_of _ _)) ?_; (· with_reducible repeat (first | exact hb1 | refine Bk.later ?_ (below_plus _ _ _))); intro w2 hb2 hg2))
  refine bodyPost_agg2 Try.results111 rfl rfl hb2.range u1 u2 (szArr _ (by first | exact K16_of _ _ | exact K16_0)) rfl (RetV.mk ?_)
  refine below_grown ?_ hg2 (by omega)
  repeat (first | exact Below.refl _ _ | refine belowP ?_ _ _ | refine Below.alloc ?_ (by simp) _)
set_option maxHeartbeats 1000000 in
set_option maxRecDepth 100000 in
theorem refAt_then1 (key : List UInt8) (hk : K16 key) (n : Nat) (b : Int) (w : World) (hn : n < 18446744073709551616) (hm : n % 2 = 0) (hb : b = 1) (h0 : n ≠ 0) : Calls Try.prog 111 #[.agg (ringC key n).toArray, .int .i64 b] w (RetV w (.tuple #[.agg (bcs (derK key (n - 1))).toArray, .bool true])) := by
  have q := ringC_16 key hk n
  obtain ⟨dk, u1, u2, u3⟩ := row16
  subst hb
  have t1 : ((n : Int) % 2) = 0 := by omega
  have t2 : ((n : Int) == 0) = false := beq_eq_false_iff_ne.2 (by omega)
  have t3 : (1 : Int) ≤ n := by omega
  have hn1 : n - 1 < 18446744073709551616 := by omega
  have HE1 := Lib.hid (show (n : Int) - 1 = ((n - 1 : Nat) : Int) by omega)
  clear hm
  have hb0 : Bk ((w.alloc (.cells (ringC key n).toArray 51)).alloc (.cells #[.int .u8 0, .int .u8 0, .int .u8 0, .int .u8 0, .int .u8 0, .int .u8 0, .int .u8 0, .int .u8 0, .int .u8 0, .int .u8 0, .int .u8 0, .int .u8 0, .int .u8 0, .int .u8 0, .int .u8 0, .int .u8 0] 49)) w.heap.size 51 (ringC key n) := (Bk.new w 51 (ringC key n).toArray).alloc _
  have hb1 : Bk ((w.alloc (.cells (ringC key n).toArray 51)).alloc (.cells #[.int .u8 0, .int .u8 0, .int .u8 0, .int .u8 0, .int .u8 0, .int .u8 0, .int .u8 0, .int .u8 0, .int .u8 0, .int .u8 0, .int .u8 0, .int .u8 0, .int .u8 0, .int .u8 0, .int .u8 0, .int .u8 0] 49)) (w.heap.size + 1) 49 (bcs key0) := by
    have := Bk.new (w.alloc (.cells (ringC key n).toArray 51)) 49 #[.int .u8 0, .int .u8 0, .int .u8 0, .int .u8 0, .int .u8 0, .int .u8 0, .int .u8 0, .int .u8 0, .int .u8 0, .int .u8 0, .int .u8 0, .int .u8 0, .int .u8 0, .int .u8 0, .int .u8 0, .int .u8 0]
    rw [World.size_alloc] at this
    exact this
  go_enter Try.func111, Try.ntmps111
  go_wp2_with (first
    | (refine at_op (.load 49 (.tmp 26)) rfl ?_; refine wpList_ldA (t := 51) 49 (.tmp 26) rfl rfl (bcs key) rfl ?_ (ringC_key key n) u1 u2 (szArr key hk) ?_; (· with_reducible repeat (first | exact hb0 | refine Bk.later ?_ (below_plus _ _ _))))
    | (go_at_call 160; rw [HE1.out]; refine (refDerive_any key hk (n - 1) _ hn1).mono ?_; rintro e w1 ⟨bs2, d2, rfl, rfl⟩)
    | (refine at_op (.store 49 (.tmp 4) (.tmp 29)) rfl ?_; refine wpList_stA (t := 49) 49 (.tmp 4) (.tmp 29) rfl rfl (bcs (derK key (n - 1))) (bcs key0) (by rw [derK_length]; rfl) (bcs_one _) rfl rfl ?_ (szArr _ (K16_of _ _)) ?_; (· with_reducible repeat (first | exact hb1 | refine Bk.later ?_ (below_plus _ _ _))); intro w2 hb2 hg2))
  refine bodyPost_agg2 Try.results111 rfl rfl hb2.range u1 u2 (szArr _ (by first | exact K16_of _ _ | exact K16_0)) rfl (RetV.mk ?_)
  refine below_grown ?_ hg2 (by omega)
  repeat (first | exact Below.refl _ _ | refine belowP ?_ _ _ | refine Below.alloc ?_ (by simp) _)
set_option maxHeartbeats 1000000 in
set_option maxRecDepth 100000 in
theorem refAt_zero (key : List UInt8) (hk : K16 key) (n : Nat) (b : Int) (w : World) (hn : n < 18446744073709551616) (hb : b = 1) (h0 : n = 0) : Calls Try.prog 111 #[.agg (ringC key n).toArray, .int .i64 b] w (RetV w (.tuple #[.agg (bcs key0).toArray, .bool false])) := by
  have q := ringC_16 key hk n
  obtain ⟨dk, u1, u2, u3⟩ := row16
  subst hb
  have t1 : ((n : Int) % 2) = 0 := by omega
  have t2 : ((n : Int) == 0) = true := beq_iff_eq.2 (by omega)
  clear h0
  have hb0 : Bk ((w.alloc (.cells (ringC key n).toArray 51)).alloc (.cells #[.int .u8 0, .int .u8 0, .int .u8 0, .int .u8 0, .int .u8 0, .int .u8 0, .int .u8 0, .int .u8 0, .int .u8 0, .int .u8 0, .int .u8 0, .int .u8 0, .int .u8 0, .int .u8 0, .int .u8 0, .int .u8 0] 49)) w.heap.size 51 (ringC key n) := (Bk.new w 51 (ringC key n).toArray).alloc _
  have hb1 : Bk ((w.alloc (.cells (ringC key n).toArray 51)).alloc (.cells #[.int .u8 0, .int .u8 0, .int .u8 0, .int .u8 0, .int .u8 0, .int .u8 0, .int .u8 0, .int .u8 0, .int .u8 0, .int .u8 0, .int .u8 0, .int .u8 0, .int .u8 0, .int .u8 0, .int .u8 0, .int .u8 0] 49)) (w.heap.size + 1) 49 (bcs key0) := by
    have := Bk.new (w.alloc (.cells (ringC key n).toArray 51)) 49 #[.int .u8 0, .int .u8 0, .int .u8 0, .int .u8 0, .int .u8 0, .int .u8 0, .int .u8 0, .int .u8 0, .int .u8 0, .int .u8 0, .int .u8 0, .int .u8 0, .int .u8 0, .int .u8 0, .int .u8 0, .int .u8 0]
    rw [World.size_alloc] at this
    exact this
  go_enter Try.func111, Try.ntmps111
  go_wp2_with (first
    | (refine at_op (.build 49 #[]) rfl ?_; refine wpList_build 49 [] rfl rfl (.agg (bcs key0).toArray) ?_ ?_; exact run_buildKey0 _ (.inr rfl) _)
    | (refine at_op (.store 49 (.tmp 4) (.tmp 23)) rfl ?_; refine wpList_stA (t := 49) 49 (.tmp 4) (.tmp 23) rfl rfl (bcs key0) (bcs key0) rfl (bcs_one _) rfl rfl ?_ (szArr _ K16_0) ?_; (· with_reducible repeat (first | exact hb1 | refine Bk.later ?_ (below_plus _ _ _))); intro w2 hb2 hg2))
  refine bodyPost_agg2 Try.results111 rfl rfl hb2.range u1 u2 (szArr _ (by first | exact K16_of _ _ | exact K16_0)) rfl (RetV.mk ?_)
  refine below_grown ?_ hg2 (by omega)
  repeat (first | exact Below.refl _ _ | refine belowP ?_ _ _ | refine Below.alloc ?_ (by simp) _)
set_option maxHeartbeats 1000000 in
set_option maxRecDepth 100000 in
theorem refAt_none (key : List UInt8) (hk : K16 key) (n : Nat) (b : Int) (w : World) (hn : n < 18446744073709551616) (hi : -9223372036854775808 ≤ b ∧ b ≤ 9223372036854775807) (hx : b ≠ 0) (hy : b ≠ 1) : Calls Try.prog 111 #[.agg (ringC key n).toArray, .int .i64 b] w (RetV w (.tuple #[.agg (bcs key0).toArray, .bool false])) := by
  have q := ringC_16 key hk n
  obtain ⟨dk, u1, u2, u3⟩ := row16
  have t1 : (b != 0) = true := by rw [bne_iff_ne]; exact hx
  have t2 : (b != 1) = true := by rw [bne_iff_ne]; exact hy
  clear hx hy
  have hb0 : Bk ((w.alloc (.cells (ringC key n).toArray 51)).alloc (.cells #[.int .u8 0, .int .u8 0, .int .u8 0, .int .u8 0, .int .u8 0, .int .u8 0, .int .u8 0, .int .u8 0, .int .u8 0, .int .u8 0, .int .u8 0, .int .u8 0, .int .u8 0, .int .u8 0, .int .u8 0, .int .u8 0] 49)) w.heap.size 51 (ringC key n) := (Bk.new w 51 (ringC key n).toArray).alloc _
  have hb1 : Bk ((w.alloc (.cells (ringC key n).toArray 51)).alloc (.cells #[.int .u8 0, .int .u8 0, .int .u8 0, .int .u8 0, .int .u8 0, .int .u8 0, .int .u8 0, .int .u8 0, .int .u8 0, .int .u8 0, .int .u8 0, .int .u8 0, .int .u8 0, .int .u8 0, .int .u8 0, .int .u8 0] 49)) (w.heap.size + 1) 49 (bcs key0) := by
    have := Bk.new (w.alloc (.cells (ringC key n).toArray 51)) 49 #[.int .u8 0, .int .u8 0, .int .u8 0, .int .u8 0, .int .u8 0, .int .u8 0, .int .u8 0, .int .u8 0, .int .u8 0, .int .u8 0, .int .u8 0, .int .u8 0, .int .u8 0, .int .u8 0, .int .u8 0, .int .u8 0]
    rw [World.size_alloc] at this
    exact this
  go_enter Try.func111, Try.ntmps111
  go_wp2_with (first
    | (refine at_op (.build 49 #[]) rfl ?_; refine wpList_build 49 [] rfl rfl (.agg (bcs key0).toArray) ?_ ?_; exact run_buildKey0 _ (.inr rfl) _)
    | (refine at_op (.store 49 (.tmp 4) (.tmp 13)) rfl ?_; refine wpList_stA (t := 49) 49 (.tmp 4) (.tmp 13) rfl rfl (bcs key0) (bcs key0) rfl (bcs_one _) rfl rfl ?_ (szArr _ K16_0) ?_; (· with_reducible repeat (first | exact hb1 | refine Bk.later ?_ (below_plus _ _ _))); intro w2 hb2 hg2))
  refine bodyPost_agg2 Try.results111 rfl rfl hb2.range u1 u2 (szArr _ (by first | exact K16_of _ _ | exact K16_0)) rfl (RetV.mk ?_)
  refine below_grown ?_ hg2 (by omega)
  repeat (first | exact Below.refl _ _ | refine belowP ?_ _ _ | refine Below.alloc ?_ (by simp) _)
theorem refAt_any (key : List UInt8) (hk : K16 key) (n : Nat) (b : Int) (w : World) (hn : n < 18446744073709551616) (hi : -9223372036854775808 ≤ b ∧ b ≤ 9223372036854775807) : Calls Try.prog 111 #[.agg (ringC key n).toArray, .int .i64 b] w (RetV w (atV (atR key n b))) := by
  unfold atR
  rcases (show n % 2 = 0 ∨ n % 2 = 1 by omega) with hm | hm <;> rw [hm]
  · by_cases h1 : b = 0
    · rw [if_pos (by rw [h1]; rfl)]
      exact refAt_now0 key hk n b w hn hm h1
    · rw [if_neg (by exact h1)]
      by_cases h2 : b = 1
      · by_cases h0 : n = 0
        · rw [if_neg (fun h => h.2 h0)]
          exact refAt_zero key hk n b w hn h2 h0
        · rw [if_pos ⟨by rw [h2]; rfl, h0⟩]
          exact refAt_then1 key hk n b w hn hm h2 h0
      · rw [if_neg (fun h => h2 (by rw [h.1]; rfl))]
        exact refAt_none key hk n b w hn hi h1 h2
  · by_cases h1 : b = 1
    · rw [if_pos (by rw [h1]; rfl)]
      exact refAt_now1 key hk n b w hn hm h1
    · rw [if_neg (by exact h1)]
      by_cases h2 : b = 0
      · rw [if_pos ⟨by rw [h2]; rfl, by omega⟩]
        exact refAt_then0 key hk n b w hn hm h2 (by omega)
      · rw [if_neg (fun h => h2 (by rw [h.1]; rfl))]
        exact refAt_none key hk n b w hn hi h2 h1
end Go.Proofs.Ytldecdeiibfekaa
