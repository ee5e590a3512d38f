/- Contracts of the package ring and of its reference. -/
import Derived.Test.YtldecdeiibfekaaSipD
namespace Go.Proofs.Ytldecdeiibfekaa
open Go.RowKit
set_option linter.unusedVariables false
set_option linter.unusedSimpArgs false
attribute [local go_sem ↓] sliced_cut
attribute [local go_sem] cutA_zero

/-- a ring: the master key, the epoch -/
def ringC (key : List UInt8) (n : Nat) : List Value := bcs key ++ [.int .u64 (n : Int)]
theorem ringC_length (key : List UInt8) (hk : K16 key) (n : Nat) : (ringC key n).length = 17 := by
  simp [ringC, bcs_length, show key.length = 16 from hk]
theorem ringC_16 (key : List UInt8) (hk : K16 key) (n : Nat) : (ringC key n)[16]? = some (.int .u64 (n : Int)) := by
  unfold ringC
  rw [List.getElem?_append_right (by rw [bcs_length, show key.length = 16 from hk]; omega), bcs_length, show key.length = 16 from hk]
  rfl
theorem ringC_one (key : List UInt8) (n : Nat) : ∀ u ∈ ringC key n, u.oneCell' = true := by
  intro u hu
  rcases List.mem_append.1 hu with h | h
  · exact bcs_one key u h
  · simp at h; subst h; rfl


set_option maxRecDepth 100000 in
theorem run_buildRing (key : List UInt8) (hk : K16 key) (n : Nat) (w : World) : (Instr.build 56 #[(0, .agg (bcs key).toArray), (1, .int .u64 (n : Int))]).run Try.prog w = .ok (.agg (ringC key n).toArray) w := by
  obtain ⟨k0, k1, k2, k3, k4, k5, k6, k7, k8, k9, k10, k11, k12, k13, k14, k15, rfl⟩ := list16 hk
  kernel_rfl
theorem rowRing : ∃ d, Try.prog.underlying 56 = some d ∧ d.isRow = true ∧ (Try.prog.info? 56).map (·.size) = some 17 := ⟨_, Try.underlying56, rfl, by kernel_rfl⟩
def ring0 : List Value := [.int .u8 0, .int .u8 0, .int .u8 0, .int .u8 0, .int .u8 0, .int .u8 0, .int .u8 0, .int .u8 0, .int .u8 0, .int .u8 0, .int .u8 0, .int .u8 0, .int .u8 0, .int .u8 0, .int .u8 0, .int .u8 0, .int .u64 0]

set_option maxHeartbeats 1000000 in
set_option maxRecDepth 100000 in
theorem ringNew_any (key : List UInt8) (hk : K16 key) (n : Nat) (w : World) : Calls Try.prog 30 #[.agg (bcs key).toArray, .int .u64 n] w (RetV w (.agg (ringC key n).toArray)) := by
  obtain ⟨dk, u1, u2, u3⟩ := rowKey
  obtain ⟨dr, v1, v2, v3⟩ := rowRing
  have hl := ringC_length key hk n
  have hb0 := (Bk.new w 54 (bcs key).toArray).alloc (.cells #[.int .u8 0, .int .u8 0, .int .u8 0, .int .u8 0, .int .u8 0, .int .u8 0, .int .u8 0, .int .u8 0, .int .u8 0, .int .u8 0, .int .u8 0, .int .u8 0, .int .u8 0, .int .u8 0, .int .u8 0, .int .u8 0, .int .u64 0] 56)
  have hb1 := Bk.new (w.alloc (.cells (bcs key).toArray 54)) 56 #[.int .u8 0, .int .u8 0, .int .u8 0, .int .u8 0, .int .u8 0, .int .u8 0, .int .u8 0, .int .u8 0, .int .u8 0, .int .u8 0, .int .u8 0, .int .u8 0, .int .u8 0, .int .u8 0, .int .u8 0, .int .u8 0, .int .u64 0]
  rw [World.size_alloc] at hb1
  go_enter Try.func30, Try.ntmps30
  go_wp2_with (first
    | (refine at_op (.load 54 (.tmp 2)) rfl ?_; refine wpList_ldA 54 (.tmp 2) rfl rfl (bcs key) rfl hb0 (by rw [List.drop_zero]; exact List.take_of_length_le (Nat.le_refl _)) u1 u2 (by rw [bcs_length, show key.length = 16 from hk]; exact u3) ?_)
    | (refine at_op (.build 56 #[(0, .tmp 5), (1, .tmp 6)]) rfl ?_; refine wpList_build 56 [(0, .tmp 5), (1, .tmp 6)] rfl rfl (.agg (ringC key n).toArray) ?_ ?_; exact run_buildRing key hk n _)
    | (refine at_op (.store 56 (.tmp 4) (.tmp 7)) rfl ?_; refine wpList_stA 56 (.tmp 4) (.tmp 7) rfl rfl (ringC key n) ring0 (by rw [hl]; rfl) (ringC_one key n) rfl rfl hb1 (by rw [hl]; exact v3) ?_; intro w2 hb2 hg2))
  refine bodyPost_agg Try.results30 rfl hb2.range v1 v2 (by rw [hl]; exact v3) rfl (RetV.mk ?_)
  exact (((Below.refl _ _).alloc (Nat.le_refl _) _).alloc (by simp) _).trans (below_of_grown hg2 (by simp; omega) (fun k hk => by injection hk with hk; omega))

theorem bcs_whole (key : List UInt8) : ((bcs key).drop 0).take (bcs key).length = bcs key := by rw [List.drop_zero]; exact List.take_of_length_le (Nat.le_refl _)
theorem ringC_whole (key : List UInt8) (n : Nat) : ((ringC key n).drop 0).take (ringC key n).length = ringC key n := by rw [List.drop_zero]; exact List.take_of_length_le (Nat.le_refl _)
theorem ringC_key (key : List UInt8) (n : Nat) : ((ringC key n).drop 0).take (bcs key).length = bcs key := by rw [List.drop_zero, ringC]; exact List.take_left
theorem szKey (key : List UInt8) (hk : K16 key) : (Try.prog.info? 54).map (·.size) = some (bcs key).length := by rw [bcs_length, show key.length = 16 from hk]; kernel_rfl
theorem szRing (key : List UInt8) (hk : K16 key) (n : Nat) : (Try.prog.info? 56).map (·.size) = some (ringC key n).length := by rw [ringC_length key hk n]; kernel_rfl

theorem and_one (n : Nat) (hn : n < 18446744073709551616) : bits .and .u64 (n : Int) 1 = ((n % 2 : Nat) : Int) := by
  have := u64_and_nat n 1 hn (by decide)
  rw [Nat.and_one_is_mod] at this
  exact this
set_option maxHeartbeats 1000000 in
set_option maxRecDepth 100000 in
theorem ringBit_any (key : List UInt8) (hk : K16 key) (n : Nat) (w : World) (hn : n < 18446744073709551616) : Calls Try.prog 106 #[.agg (ringC key n).toArray] w (RetV w (.int .i64 ((n % 2 : Nat) : Int))) := by
  have q := ringC_16 key hk n
  have h1 := and_one n hn
  have h2 : n % 2 < 2 := Nat.mod_lt _ (by decide)
  generalize n % 2 = m at *
  go_enter Try.func106, Try.ntmps106
  go_wp2
  go_ret
  exact RetV.mk ((Below.refl _ _).alloc (Nat.le_refl _) _)

set_option maxHeartbeats 1000000 in
set_option maxRecDepth 100000 in
theorem ringNext_any (key : List UInt8) (hk : K16 key) (n : Nat) (w : World) (hn : n < 18446744073709551616) : Calls Try.prog 36 #[.agg (ringC key n).toArray] w (RetV w (.agg (ringC key ((n + 1) % 18446744073709551616)).toArray)) := by
  have q := ringC_16 key hk n
  obtain ⟨dk, u1, u2, u3⟩ := rowKey
  obtain ⟨dr, v1, v2, v3⟩ := rowRing
  have e : IntKind.u64.wrap ((n : Int) + 1) = (((n + 1) % 18446744073709551616 : Nat) : Int) := by rw [IntKind.wrap_u64]; omega
  generalize (n + 1) % 18446744073709551616 = n2 at *
  have hb0 := (Bk.new w 56 (ringC key n).toArray).alloc (.cells #[.int .u8 0, .int .u8 0, .int .u8 0, .int .u8 0, .int .u8 0, .int .u8 0, .int .u8 0, .int .u8 0, .int .u8 0, .int .u8 0, .int .u8 0, .int .u8 0, .int .u8 0, .int .u8 0, .int .u8 0, .int .u8 0, .int .u64 0] 56)
  have hb1 := Bk.new (w.alloc (.cells (ringC key n).toArray 56)) 56 #[.int .u8 0, .int .u8 0, .int .u8 0, .int .u8 0, .int .u8 0, .int .u8 0, .int .u8 0, .int .u8 0, .int .u8 0, .int .u8 0, .int .u8 0, .int .u8 0, .int .u8 0, .int .u8 0, .int .u8 0, .int .u8 0, .int .u64 0]
  rw [World.size_alloc] at hb1
  go_enter Try.func36, Try.ntmps36
  go_wp2_with (first
    | (refine at_op (.load 54 (.tmp 3)) rfl ?_; refine wpList_ldA 54 (.tmp 3) rfl rfl (bcs key) rfl hb0 (ringC_key key n) u1 u2 (szKey key hk) ?_)
    | (go_at_call 30; refine (ringNew_any key hk n2 _).mono ?_; rintro e w1 ⟨bs1, d1, rfl, rfl⟩)
    | (refine at_op (.store 56 (.tmp 2) (.tmp 8)) rfl ?_; refine wpList_stA 56 (.tmp 2) (.tmp 8) rfl rfl (ringC key n2) ring0 (by rw [ringC_length key hk]; rfl) (ringC_one key n2) rfl rfl (hb1.later (below_plus _ _ _)) (szRing key hk n2) ?_; intro w2 hb2 hg2))
  refine bodyPost_agg Try.results36 rfl hb2.range v1 v2 (szRing key hk n2) rfl (RetV.mk ?_)
  exact (belowP (((Below.refl _ _).alloc (Nat.le_refl _) _).alloc (by simp) _) bs1 d1).trans (below_of_grown hg2 (by simp [size_plus]; omega) (fun k hk => by injection hk with hk; omega))

/-- the key of a bit, or none -/
noncomputable def atR (key : List UInt8) (n : Nat) (b : Int) : Option (List UInt8) :=
  if b = ((n % 2 : Nat) : Int) then some (derK key n) else if b = 1 - ((n % 2 : Nat) : Int) ∧ n ≠ 0 then some (derK key (n - 1)) else none
def key0 : List UInt8 := List.replicate 16 0
noncomputable def atV (r : Option (List UInt8)) : Value := .tuple #[.agg (bcs (r.getD key0)).toArray, .bool r.isSome]
theorem K16_0 : K16 key0 := rfl
theorem K16_at (key : List UInt8) (n : Nat) (b : Int) : K16 ((atR key n b).getD key0) := by
  unfold atR
  split
  · exact K16_of _ _
  · split
    · exact K16_of _ _
    · exact K16_0
set_option maxRecDepth 100000 in
theorem run_buildKey0 (ty : TypeId) (h : ty = 54 ∨ ty = 49) (w : World) : (Instr.build ty #[]).run Try.prog w = .ok (.agg (bcs key0).toArray) w := by
  rcases h with rfl | rfl <;> kernel_rfl
end Go.Proofs.Ytldecdeiibfekaa
