/- Contracts of the package ring and of its reference. -/
import Derived.Test.YtfmkndemkpecpaaSipD
namespace Go.Proofs.Ytfmkndemkpecpaa
open Go.RowKit
set_option linter.unusedVariables false
set_option linter.unusedSimpArgs false
attribute [local go_sem ↓] sliced_cut
attribute [local go_sem] cutA_zero

/-- a ring: the master key, the epoch -/
def ringC (key : List UInt8) (n : Nat) : List Value := bcs key ++ [.int .u64 (n : Int)]
theorem ringC_length (key : List UInt8) (hk : K16 key) (n : Nat) : (ringC key n).length = 17 := by
  simp [ringC, bcs_length, show key.length = 16 from hk]
theorem ringC_16 (key : List UInt8) (hk : K16 key) (n : Nat) : (ringC key n)[16]? = some (.int .u64 (n : Int)) := by
  unfold ringC
  rw [List.getElem?_append_right (by rw [bcs_length, show key.length = 16 from hk]; omega), bcs_length, show key.length = 16 from hk]
  rfl
theorem ringC_one (key : List UInt8) (n : Nat) : ∀ u ∈ ringC key n, u.oneCell' = true := by
  intro u hu
  rcases List.mem_append.1 hu with h | h
  · exact bcs_one key u h
  · simp at h; subst h; rfl


def ring0 : List Value := [.int .u8 0, .int .u8 0, .int .u8 0, .int .u8 0, .int .u8 0, .int .u8 0, .int .u8 0, .int .u8 0, .int .u8 0, .int .u8 0, .int .u8 0, .int .u8 0, .int .u8 0, .int .u8 0, .int .u8 0, .int .u8 0, .int .u64 0]

theorem bcs_whole (key : List UInt8) : ((bcs key).drop 0).take (bcs key).length = bcs key := by rw [List.drop_zero]; exact List.take_of_length_le (Nat.le_refl _)
theorem ringC_whole (key : List UInt8) (n : Nat) : ((ringC key n).drop 0).take (ringC key n).length = ringC key n := by rw [List.drop_zero]; exact List.take_of_length_le (Nat.le_refl _)
theorem ringC_key (key : List UInt8) (n : Nat) : ((ringC key n).drop 0).take (bcs key).length = bcs key := by rw [List.drop_zero, ringC]; exact List.take_left
theorem szKey (key : List UInt8) (hk : K16 key) : (Try.prog.info? 192).map (·.size) = some (bcs key).length := by rw [bcs_length, show key.length = 16 from hk]; kernel_rfl
theorem and_one (n : Nat) (hn : n < 18446744073709551616) : bits .and .u64 (n : Int) 1 = ((n % 2 : Nat) : Int) := by
  have := u64_and_nat n 1 hn (by decide)
  rw [Nat.and_one_is_mod] at this
  exact this
/-- the key of a bit, or none -/
noncomputable def atR (key : List UInt8) (n : Nat) (b : Int) : Option (List UInt8) :=
  if b = ((n % 2 : Nat) : Int) then some (derK key n) else if b = 1 - ((n % 2 : Nat) : Int) ∧ n ≠ 0 then some (derK key (n - 1)) else none
def key0 : List UInt8 := List.replicate 16 0
noncomputable def atV (r : Option (List UInt8)) : Value := .tuple #[.agg (bcs (r.getD key0)).toArray, .bool r.isSome]
theorem K16_0 : K16 key0 := rfl
theorem K16_at (key : List UInt8) (n : Nat) (b : Int) : K16 ((atR key n b).getD key0) := by
  unfold atR
  split
  · exact K16_of _ _
  · split
    · exact K16_of _ _
    · exact K16_0
set_option maxRecDepth 100000 in
theorem run_buildKey0 (ty : TypeId) (h : ty = 192 ∨ ty = 74) (w : World) : (Instr.build ty #[]).run Try.prog w = .ok (.agg (bcs key0).toArray) w := by
  rcases h with rfl | rfl <;> kernel_rfl
end Go.Proofs.Ytfmkndemkpecpaa
