/- (ring.Ring).At and its reference. -/
import Derived.Test.YtldecdeiibfekaaRing
namespace Go.Proofs.Ytldecdeiibfekaa
open Go.RowKit
set_option linter.unusedVariables false
set_option linter.unusedSimpArgs false
attribute [local go_sem ↓] sliced_cut
attribute [local go_sem] cutA_zero

theorem derK_length (key : List UInt8) (n : Nat) : (bcs (derK key n)).length = 16 := by rw [bcs_length]; exact K16_of _ _

set_option maxHeartbeats 1000000 in
set_option maxRecDepth 100000 in
theorem ringAt_now (key : List UInt8) (hk : K16 key) (n : Nat) (b : Int) (w : World) (hn : n < 18446744073709551616) (hb : b = ((n % 2 : Nat) : Int)) : Calls Try.prog 105 #[.agg (ringC key n).toArray, .int .i64 b] w (RetV w (.tuple #[.agg (bcs (derK key n)).toArray, .bool true])) := by
  have q := ringC_16 key hk n
  obtain ⟨dk, u1, u2, u3⟩ := rowKey
  obtain ⟨dr, v1, v2, v3⟩ := rowRing
  have hm : n % 2 < 2 := Nat.mod_lt _ (by decide)
  have hbit := fun w => ringBit_any key hk n w hn
  have HBIT := Lib.hid hbit
  clear hbit
  subst hb
  generalize n % 2 = m at *
  have hb0 : Bk ((w.alloc (.cells (ringC key n).toArray 56)).alloc (.cells #[.int .u8 0, .int .u8 0, .int .u8 0, .int .u8 0, .int .u8 0, .int .u8 0, .int .u8 0, .int .u8 0, .int .u8 0, .int .u8 0, .int .u8 0, .int .u8 0, .int .u8 0, .int .u8 0, .int .u8 0, .int .u8 0] 54)) w.heap.size 56 (ringC key n) := (Bk.new w 56 (ringC key n).toArray).alloc _
  have hb1 : Bk ((w.alloc (.cells (ringC key n).toArray 56)).alloc (.cells #[.int .u8 0, .int .u8 0, .int .u8 0, .int .u8 0, .int .u8 0, .int .u8 0, .int .u8 0, .int .u8 0, .int .u8 0, .int .u8 0, .int .u8 0, .int .u8 0, .int .u8 0, .int .u8 0, .int .u8 0, .int .u8 0] 54)) (w.heap.size + 1) 54 (bcs key0) := by
    have := Bk.new (w.alloc (.cells (ringC key n).toArray 56)) 54 #[.int .u8 0, .int .u8 0, .int .u8 0, .int .u8 0, .int .u8 0, .int .u8 0, .int .u8 0, .int .u8 0, .int .u8 0, .int .u8 0, .int .u8 0, .int .u8 0, .int .u8 0, .int .u8 0, .int .u8 0, .int .u8 0]
    rw [World.size_alloc] at this
    exact this
  go_enter Try.func105, Try.ntmps105
  go_wp2_with (first
    | (refine at_op (.load 56 (.tmp 2)) rfl ?_; refine wpList_ldA (t := 56) 56 (.tmp 2) rfl rfl (ringC key n) rfl ?_ (ringC_whole key n) v1 v2 (szRing key hk n) ?_; (· with_reducible repeat (first | exact hb0 | refine Bk.later ?_ (below_plus _ _ _))))
    | (go_at_call 106; refine (HBIT.out _).mono ?_; rintro e w1 ⟨bs1, d1, rfl, rfl⟩)
    | (refine at_op (.load 54 (.tmp 11)) rfl ?_; refine wpList_ldA (t := 56) 54 (.tmp 11) rfl rfl (bcs key) rfl ?_ (ringC_key key n) u1 u2 (szKey key hk) ?_; (· with_reducible repeat (first | exact hb0 | refine Bk.later ?_ (below_plus _ _ _))))
    | (go_at_call 157; refine (derive_any key hk n _ hn).mono ?_; rintro e w1 ⟨bs2, d2, rfl, rfl⟩)
    | (refine at_op (.store 54 (.tmp 4) (.tmp 15)) rfl ?_; refine wpList_stA (t := 54) 54 (.tmp 4) (.tmp 15) rfl rfl (bcs (derK key n)) (bcs key0) (by rw [derK_length]; rfl) (bcs_one _) rfl rfl ?_ (szKey _ (K16_of _ _)) ?_; (· with_reducible repeat (first | exact hb1 | refine Bk.later ?_ (below_plus _ _ _))); intro w2 hb2 hg2))
  refine bodyPost_agg2 Try.results105 rfl rfl hb2.range u1 u2 (szKey _ (by first | exact K16_of _ _ | exact K16_0)) rfl (RetV.mk ?_)
  refine below_grown ?_ hg2 (by omega)
  repeat (first | exact Below.refl _ _ | refine belowP ?_ _ _ | refine Below.alloc ?_ (by simp) _)
set_option maxHeartbeats 1000000 in
set_option maxRecDepth 100000 in
theorem ringAt_then (key : List UInt8) (hk : K16 key) (n : Nat) (b : Int) (w : World) (hn : n < 18446744073709551616) (hb : b = 1 - ((n % 2 : Nat) : Int)) (h0 : n ≠ 0) : Calls Try.prog 105 #[.agg (ringC key n).toArray, .int .i64 b] w (RetV w (.tuple #[.agg (bcs (derK key (n - 1))).toArray, .bool true])) := by
  have q := ringC_16 key hk n
  obtain ⟨dk, u1, u2, u3⟩ := rowKey
  obtain ⟨dr, v1, v2, v3⟩ := rowRing
  have hm : n % 2 < 2 := Nat.mod_lt _ (by decide)
  have hbit := fun w => ringBit_any key hk n w hn
  have HBIT := Lib.hid hbit
  clear hbit
  have t1 : ((b : Int) == ((n % 2 : Nat) : Int)) = false := beq_eq_false_iff_ne.2 (by omega)
  have t2 : ((n : Int) != 0) = true := by rw [bne_iff_ne]; omega
  have t3 : (1 : Int) ≤ n := by omega
  have hn1 : n - 1 < 18446744073709551616 := by omega
  have e1 : (n : Int) - 1 = ((n - 1 : Nat) : Int) := by omega
  have HE1 := Lib.hid e1
  clear e1
  subst hb
  generalize n % 2 = m at *
  have hb0 : Bk ((w.alloc (.cells (ringC key n).toArray 56)).alloc (.cells #[.int .u8 0, .int .u8 0, .int .u8 0, .int .u8 0, .int .u8 0, .int .u8 0, .int .u8 0, .int .u8 0, .int .u8 0, .int .u8 0, .int .u8 0, .int .u8 0, .int .u8 0, .int .u8 0, .int .u8 0, .int .u8 0] 54)) w.heap.size 56 (ringC key n) := (Bk.new w 56 (ringC key n).toArray).alloc _
  have hb1 : Bk ((w.alloc (.cells (ringC key n).toArray 56)).alloc (.cells #[.int .u8 0, .int .u8 0, .int .u8 0, .int .u8 0, .int .u8 0, .int .u8 0, .int .u8 0, .int .u8 0, .int .u8 0, .int .u8 0, .int .u8 0, .int .u8 0, .int .u8 0, .int .u8 0, .int .u8 0, .int .u8 0] 54)) (w.heap.size + 1) 54 (bcs key0) := by
    have := Bk.new (w.alloc (.cells (ringC key n).toArray 56)) 54 #[.int .u8 0, .int .u8 0, .int .u8 0, .int .u8 0, .int .u8 0, .int .u8 0, .int .u8 0, .int .u8 0, .int .u8 0, .int .u8 0, .int .u8 0, .int .u8 0, .int .u8 0, .int .u8 0, .int .u8 0, .int .u8 0]
    rw [World.size_alloc] at this
    exact this
  go_enter Try.func105, Try.ntmps105
  go_wp2_with (first
    | (refine at_op (.load 56 (.tmp 2)) rfl ?_; refine wpList_ldA (t := 56) 56 (.tmp 2) rfl rfl (ringC key n) rfl ?_ (ringC_whole key n) v1 v2 (szRing key hk n) ?_; (· with_reducible repeat (first | exact hb0 | refine Bk.later ?_ (below_plus _ _ _))))
    | (go_at_call 106; refine (HBIT.out _).mono ?_; rintro e w1 ⟨bs1, d1, rfl, rfl⟩)
    | (refine at_op (.load 54 (.tmp 27)) rfl ?_; refine wpList_ldA (t := 56) 54 (.tmp 27) rfl rfl (bcs key) rfl ?_ (ringC_key key n) u1 u2 (szKey key hk) ?_; (· with_reducible repeat (first | exact hb0 | refine Bk.later ?_ (below_plus _ _ _))))
    | (go_at_call 157; rw [HE1.out]; refine (derive_any key hk (n - 1) _ hn1).mono ?_; rintro e w1 ⟨bs2, d2, rfl, rfl⟩)
    | (refine at_op (.store 54 (.tmp 4) (.tmp 32)) rfl ?_; refine wpList_stA (t := 54) 54 (.tmp 4) (.tmp 32) rfl rfl (bcs (derK key (n - 1))) (bcs key0) (by rw [derK_length]; rfl) (bcs_one _) rfl rfl ?_ (szKey _ (K16_of _ _)) ?_; (· with_reducible repeat (first | exact hb1 | refine Bk.later ?_ (below_plus _ _ _))); intro w2 hb2 hg2))
  refine bodyPost_agg2 Try.results105 rfl rfl hb2.range u1 u2 (szKey _ (by first | exact K16_of _ _ | exact K16_0)) rfl (RetV.mk ?_)
  refine below_grown ?_ hg2 (by omega)
  repeat (first | exact Below.refl _ _ | refine belowP ?_ _ _ | refine Below.alloc ?_ (by simp) _)
set_option maxHeartbeats 1000000 in
set_option maxRecDepth 100000 in
theorem ringAt_none (key : List UInt8) (hk : K16 key) (n : Nat) (b : Int) (w : World) (hn : n < 18446744073709551616) (hi : -9223372036854775808 ≤ b ∧ b ≤ 9223372036854775807) (hb1 : b ≠ ((n % 2 : Nat) : Int)) (hb2 : b ≠ 1 - ((n % 2 : Nat) : Int)) : Calls Try.prog 105 #[.agg (ringC key n).toArray, .int .i64 b] w (RetV w (.tuple #[.agg (bcs key0).toArray, .bool false])) := by
  have q := ringC_16 key hk n
  obtain ⟨dk, u1, u2, u3⟩ := rowKey
  obtain ⟨dr, v1, v2, v3⟩ := rowRing
  have hm : n % 2 < 2 := Nat.mod_lt _ (by decide)
  have hbit := fun w => ringBit_any key hk n w hn
  have HBIT := Lib.hid hbit
  clear hbit
  have t1 : ((b : Int) == ((n % 2 : Nat) : Int)) = false := beq_eq_false_iff_ne.2 hb1
  have t2 : ((b : Int) == 1 - ((n % 2 : Nat) : Int)) = false := beq_eq_false_iff_ne.2 hb2
  clear hb1 hb2
  generalize n % 2 = m at *
  have hb0 : Bk ((w.alloc (.cells (ringC key n).toArray 56)).alloc (.cells #[.int .u8 0, .int .u8 0, .int .u8 0, .int .u8 0, .int .u8 0, .int .u8 0, .int .u8 0, .int .u8 0, .int .u8 0, .int .u8 0, .int .u8 0, .int .u8 0, .int .u8 0, .int .u8 0, .int .u8 0, .int .u8 0] 54)) w.heap.size 56 (ringC key n) := (Bk.new w 56 (ringC key n).toArray).alloc _
  have hb1 : Bk ((w.alloc (.cells (ringC key n).toArray 56)).alloc (.cells #[.int .u8 0, .int .u8 0, .int .u8 0, .int .u8 0, .int .u8 0, .int .u8 0, .int .u8 0, .int .u8 0, .int .u8 0, .int .u8 0, .int .u8 0, .int .u8 0, .int .u8 0, .int .u8 0, .int .u8 0, .int .u8 0] 54)) (w.heap.size + 1) 54 (bcs key0) := by
    have := Bk.new (w.alloc (.cells (ringC key n).toArray 56)) 54 #[.int .u8 0, .int .u8 0, .int .u8 0, .int .u8 0, .int .u8 0, .int .u8 0, .int .u8 0, .int .u8 0, .int .u8 0, .int .u8 0, .int .u8 0, .int .u8 0, .int .u8 0, .int .u8 0, .int .u8 0, .int .u8 0]
    rw [World.size_alloc] at this
    exact this
  go_enter Try.func105, Try.ntmps105
  go_wp2_with (first
    | (refine at_op (.load 56 (.tmp 2)) rfl ?_; refine wpList_ldA (t := 56) 56 (.tmp 2) rfl rfl (ringC key n) rfl ?_ (ringC_whole key n) v1 v2 (szRing key hk n) ?_; (· with_reducible repeat (first | exact hb0 | refine Bk.later ?_ (below_plus _ _ _))))
    | (go_at_call 106; refine (HBIT.out _).mono ?_; rintro e w1 ⟨bs1, d1, rfl, rfl⟩)
    | (refine at_op (.build 54 #[]) rfl ?_; refine wpList_build 54 [] rfl rfl (.agg (bcs key0).toArray) ?_ ?_; exact run_buildKey0 _ (.inl rfl) _)
    | (refine at_op (.store 54 (.tmp 4) (.tmp 33)) rfl ?_; refine wpList_stA (t := 54) 54 (.tmp 4) (.tmp 33) rfl rfl (bcs key0) (bcs key0) rfl (bcs_one _) rfl rfl ?_ (szKey _ K16_0) ?_; (· with_reducible repeat (first | exact hb1 | refine Bk.later ?_ (below_plus _ _ _))); intro w2 hb2 hg2))
  refine bodyPost_agg2 Try.results105 rfl rfl hb2.range u1 u2 (szKey _ (by first | exact K16_of _ _ | exact K16_0)) rfl (RetV.mk ?_)
  refine below_grown ?_ hg2 (by omega)
  repeat (first | exact Below.refl _ _ | refine belowP ?_ _ _ | refine Below.alloc ?_ (by simp) _)
set_option maxHeartbeats 1000000 in
set_option maxRecDepth 100000 in
theorem ringAt_zero (key : List UInt8) (hk : K16 key) (n : Nat) (b : Int) (w : World) (hn : n < 18446744073709551616) (hb : b = 1 - ((n % 2 : Nat) : Int)) (h0 : n = 0) : Calls Try.prog 105 #[.agg (ringC key n).toArray, .int .i64 b] w (RetV w (.tuple #[.agg (bcs key0).toArray, .bool false])) := by
  have q := ringC_16 key hk n
  obtain ⟨dk, u1, u2, u3⟩ := rowKey
  obtain ⟨dr, v1, v2, v3⟩ := rowRing
  have hm : n % 2 < 2 := Nat.mod_lt _ (by decide)
  have hbit := fun w => ringBit_any key hk n w hn
  have HBIT := Lib.hid hbit
  clear hbit
  obtain rfl : b = 1 := by rw [hb, h0]; rfl
  have t1 : ((n : Int) != 0) = false := by rw [h0]; rfl
  have hm0 : n % 2 = 0 := by rw [h0]
  rw [hm0] at HBIT
  clear hb h0 hm0 hm
  have hb0 : Bk ((w.alloc (.cells (ringC key n).toArray 56)).alloc (.cells #[.int .u8 0, .int .u8 0, .int .u8 0, .int .u8 0, .int .u8 0, .int .u8 0, .int .u8 0, .int .u8 0, .int .u8 0, .int .u8 0, .int .u8 0, .int .u8 0, .int .u8 0, .int .u8 0, .int .u8 0, .int .u8 0] 54)) w.heap.size 56 (ringC key n) := (Bk.new w 56 (ringC key n).toArray).alloc _
  have hb1 : Bk ((w.alloc (.cells (ringC key n).toArray 56)).alloc (.cells #[.int .u8 0, .int .u8 0, .int .u8 0, .int .u8 0, .int .u8 0, .int .u8 0, .int .u8 0, .int .u8 0, .int .u8 0, .int .u8 0, .int .u8 0, .int .u8 0, .int .u8 0, .int .u8 0, .int .u8 0, .int .u8 0] 54)) (w.heap.size + 1) 54 (bcs key0) := by
    have := Bk.new (w.alloc (.cells (ringC key n).toArray 56)) 54 #[.int .u8 0, .int .u8 0, .int .u8 0, .int .u8 0, .int .u8 0, .int .u8 0, .int .u8 0, .int .u8 0, .int .u8 0, .int .u8 0, .int .u8 0, .int .u8 0, .int .u8 0, .int .u8 0, .int .u8 0, .int .u8 0]
    rw [World.size_alloc] at this
    exact this
  go_enter Try.func105, Try.ntmps105
  go_wp2_with (first
    | (refine at_op (.load 56 (.tmp 2)) rfl ?_; refine wpList_ldA (t := 56) 56 (.tmp 2) rfl rfl (ringC key n) rfl ?_ (ringC_whole key n) v1 v2 (szRing key hk n) ?_; (· with_reducible repeat (first | exact hb0 | refine Bk.later ?_ (below_plus _ _ _))))
    | (go_at_call 106; refine (HBIT.out _).mono ?_; rintro e w1 ⟨bs1, d1, rfl, rfl⟩)
    | (refine at_op (.build 54 #[]) rfl ?_; refine wpList_build 54 [] rfl rfl (.agg (bcs key0).toArray) ?_ ?_; exact run_buildKey0 _ (.inl rfl) _)
    | (refine at_op (.store 54 (.tmp 4) (.tmp 33)) rfl ?_; refine wpList_stA (t := 54) 54 (.tmp 4) (.tmp 33) rfl rfl (bcs key0) (bcs key0) rfl (bcs_one _) rfl rfl ?_ (szKey _ K16_0) ?_; (· with_reducible repeat (first | exact hb1 | refine Bk.later ?_ (below_plus _ _ _))); intro w2 hb2 hg2))
  refine bodyPost_agg2 Try.results105 rfl rfl hb2.range u1 u2 (szKey _ (by first | exact K16_of _ _ | exact K16_0)) rfl (RetV.mk ?_)
  refine below_grown ?_ hg2 (by omega)
  repeat (first | exact Below.refl _ _ | refine belowP ?_ _ _ | refine Below.alloc ?_ (by simp) _)
theorem ringAt_any (key : List UInt8) (hk : K16 key) (n : Nat) (b : Int) (w : World) (hn : n < 18446744073709551616) (hi : -9223372036854775808 ≤ b ∧ b ≤ 9223372036854775807) : Calls Try.prog 105 #[.agg (ringC key n).toArray, .int .i64 b] w (RetV w (atV (atR key n b))) := by
  unfold atR
  by_cases h1 : b = ((n % 2 : Nat) : Int)
  · rw [if_pos h1]
    exact ringAt_now key hk n b w hn h1
  · rw [if_neg h1]
    by_cases h2 : b = 1 - ((n % 2 : Nat) : Int)
    · by_cases h0 : n = 0
      · rw [if_neg (fun h => h.2 h0)]
        exact ringAt_zero key hk n b w hn h2 h0
      · rw [if_pos ⟨h2, h0⟩]
        exact ringAt_then key hk n b w hn h2 h0
    · rw [if_neg (fun h => h2 h.1)]
      exact ringAt_none key hk n b w hn hi h1 h2
end Go.Proofs.Ytldecdeiibfekaa
