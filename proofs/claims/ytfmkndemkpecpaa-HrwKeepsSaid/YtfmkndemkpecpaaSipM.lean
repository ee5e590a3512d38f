/- Contracts of siphash's mixing. -/
import Derived.Test.YtfmkndemkpecpaaRef01
import Derived.Deep.RegionWith
import Derived.Deep.DeepCutAuto
import Derived.Deep.RegionHeld
namespace Go.Proofs.Ytfmkndemkpecpaa
open Go.RowKit
set_option linter.unusedVariables false
set_option linter.unusedSimpArgs false
attribute [local go_sem ↓] sliced_cut
attribute [local go_sem] cutA_zero

/-- a word turned -/
def rolC (k : Nat) (x : UInt64) : UInt64 := UInt64.ofNat (x.toNat * 2 ^ k % 18446744073709551616 ||| x.toNat / 2 ^ (64 - k))
theorem rol_ex (k : Nat) (x : UInt64) : ∃ y, y = rolC k x := ⟨_, rfl⟩
/-- the same, shut to evaluation -/
noncomputable def rol (k : Nat) (x : UInt64) : UInt64 := Classical.choose (rol_ex k x)
theorem rol_def (k : Nat) (x : UInt64) : rol k x = rolC k x := Classical.choose_spec (rol_ex k x)
/-- sum and exclusive or of words, under names that simp leaves alone -/
def uadd (x y : UInt64) : UInt64 := x + y
def uxor (x y : UInt64) : UInt64 := x ^^^ y
theorem wadd (x y : UInt64) : IntKind.u64.wrap ((x.toNat : Int) + (y.toNat : Int)) = ((uadd x y).toNat : Int) := by
  unfold uadd
  rw [UInt64.toNat_add, IntKind.wrap_u64]
  omega
theorem wxor (x y : UInt64) : bits .xor .u64 (x.toNat : Int) (y.toNat : Int) = ((uxor x y).toNat : Int) := by
  unfold uxor
  rw [u64_xor_nat _ _ x.toNat_lt y.toNat_lt, UInt64.toNat_xor]
attribute [local go_sem] wadd wxor
theorem rol_eq (k : Nat) (hk : k ≤ 64) (x : UInt64) (A B : Nat) (hA : 2 ^ k = A) (hB : 2 ^ (64 - k) = B) : bits .or .u64 (IntKind.u64.wrap ((x.toNat : Int) * (A : Nat))) ((x.toNat : Int) / (B : Nat)) = ((rol k x).toNat : Int) := by
  have hx := x.toNat_lt
  subst hA hB
  have e1 : IntKind.u64.wrap ((x.toNat : Int) * ((2 ^ k : Nat) : Int)) = ((x.toNat * 2 ^ k % 18446744073709551616 : Nat) : Int) := by
    rw [IntKind.wrap_u64]
    simp
  have e2 : (x.toNat : Int) / ((2 ^ (64 - k) : Nat) : Int) = ((x.toNat / 2 ^ (64 - k) : Nat) : Int) := by simp
  have h1 : x.toNat * 2 ^ k % 18446744073709551616 < 2 ^ 64 := Nat.mod_lt _ (by decide)
  have h2 : x.toNat / 2 ^ (64 - k) < 2 ^ 64 := Nat.lt_of_le_of_lt (Nat.div_le_self _ _) hx
  rw [e1, e2, u64_or_nat _ _ (by simpa using h1) (by simpa using h2), rol_def, rolC, UInt64.toNat_ofNat']
  rw [Nat.mod_eq_of_lt (Nat.or_lt_two_pow h1 h2)]
theorem rol13 (x : UInt64) : bits .or .u64 (IntKind.u64.wrap ((x.toNat : Int) * 8192)) ((x.toNat : Int) / 2251799813685248) = ((rol 13 x).toNat : Int) := rol_eq 13 (by decide) x 8192 2251799813685248 (by decide) (by decide)
theorem rotl13 (x : UInt64) (w : World) : Calls Try.prog 188 #[.int .u64 (x.toNat : Int), .int .i64 13] w fun e w' => e = .returned (.int .u64 ((rol 13 x).toNat : Int)) ∧ w = w' := by
  have hx := x.toNat_lt
  have hk : bits .and .u64 13 63 = 13 := by decide +kernel
  have hr := rol13 x
  go_enter Try.func188, Try.ntmps188
  go_wp2
  go_ret
  exact ⟨rfl, rfl⟩
theorem rol16 (x : UInt64) : bits .or .u64 (IntKind.u64.wrap ((x.toNat : Int) * 65536)) ((x.toNat : Int) / 281474976710656) = ((rol 16 x).toNat : Int) := rol_eq 16 (by decide) x 65536 281474976710656 (by decide) (by decide)
theorem rotl16 (x : UInt64) (w : World) : Calls Try.prog 188 #[.int .u64 (x.toNat : Int), .int .i64 16] w fun e w' => e = .returned (.int .u64 ((rol 16 x).toNat : Int)) ∧ w = w' := by
  have hx := x.toNat_lt
  have hk : bits .and .u64 16 63 = 16 := by decide +kernel
  have hr := rol16 x
  go_enter Try.func188, Try.ntmps188
  go_wp2
  go_ret
  exact ⟨rfl, rfl⟩
theorem rol17 (x : UInt64) : bits .or .u64 (IntKind.u64.wrap ((x.toNat : Int) * 131072)) ((x.toNat : Int) / 140737488355328) = ((rol 17 x).toNat : Int) := rol_eq 17 (by decide) x 131072 140737488355328 (by decide) (by decide)
theorem rotl17 (x : UInt64) (w : World) : Calls Try.prog 188 #[.int .u64 (x.toNat : Int), .int .i64 17] w fun e w' => e = .returned (.int .u64 ((rol 17 x).toNat : Int)) ∧ w = w' := by
  have hx := x.toNat_lt
  have hk : bits .and .u64 17 63 = 17 := by decide +kernel
  have hr := rol17 x
  go_enter Try.func188, Try.ntmps188
  go_wp2
  go_ret
  exact ⟨rfl, rfl⟩
theorem rol21 (x : UInt64) : bits .or .u64 (IntKind.u64.wrap ((x.toNat : Int) * 2097152)) ((x.toNat : Int) / 8796093022208) = ((rol 21 x).toNat : Int) := rol_eq 21 (by decide) x 2097152 8796093022208 (by decide) (by decide)
theorem rotl21 (x : UInt64) (w : World) : Calls Try.prog 188 #[.int .u64 (x.toNat : Int), .int .i64 21] w fun e w' => e = .returned (.int .u64 ((rol 21 x).toNat : Int)) ∧ w = w' := by
  have hx := x.toNat_lt
  have hk : bits .and .u64 21 63 = 21 := by decide +kernel
  have hr := rol21 x
  go_enter Try.func188, Try.ntmps188
  go_wp2
  go_ret
  exact ⟨rfl, rfl⟩
theorem rol32 (x : UInt64) : bits .or .u64 (IntKind.u64.wrap ((x.toNat : Int) * 4294967296)) ((x.toNat : Int) / 4294967296) = ((rol 32 x).toNat : Int) := rol_eq 32 (by decide) x 4294967296 4294967296 (by decide) (by decide)
theorem rotl32 (x : UInt64) (w : World) : Calls Try.prog 188 #[.int .u64 (x.toNat : Int), .int .i64 32] w fun e w' => e = .returned (.int .u64 ((rol 32 x).toNat : Int)) ∧ w = w' := by
  have hx := x.toNat_lt
  have hk : bits .and .u64 32 63 = 32 := by decide +kernel
  have hr := rol32 x
  go_enter Try.func188, Try.ntmps188
  go_wp2
  go_ret
  exact ⟨rfl, rfl⟩
/-- four words -/
structure W4 where
  a : UInt64
  b : UInt64
  c : UInt64
  d : UInt64
def W4.cells (v : W4) : List Value := [.int .u64 (v.a.toNat : Int), .int .u64 (v.b.toNat : Int), .int .u64 (v.c.toNat : Int), .int .u64 (v.d.toNat : Int)]
noncomputable def st0 (v : W4) : W4 := ⟨uadd v.a v.b, v.b, v.c, v.d⟩
noncomputable def st1 (v : W4) : W4 := ⟨v.a, uxor (rol 13 v.b) v.a, v.c, v.d⟩
noncomputable def st2 (v : W4) : W4 := ⟨rol 32 v.a, v.b, v.c, v.d⟩
noncomputable def st3 (v : W4) : W4 := ⟨v.a, v.b, uadd v.c v.d, v.d⟩
noncomputable def st4 (v : W4) : W4 := ⟨v.a, v.b, v.c, uxor (rol 16 v.d) v.c⟩
noncomputable def st5 (v : W4) : W4 := ⟨uadd v.a v.d, v.b, v.c, v.d⟩
noncomputable def st6 (v : W4) : W4 := ⟨v.a, v.b, v.c, uxor (rol 21 v.d) v.a⟩
noncomputable def st7 (v : W4) : W4 := ⟨v.a, v.b, uadd v.c v.b, v.d⟩
noncomputable def st8 (v : W4) : W4 := ⟨v.a, uxor (rol 17 v.b) v.c, v.c, v.d⟩
noncomputable def st9 (v : W4) : W4 := ⟨v.a, v.b, rol 32 v.c, v.d⟩
noncomputable def sround (v : W4) : W4 := st9 (st8 (st7 (st6 (st5 (st4 (st3 (st2 (st1 (st0 (v))))))))))

def RetW (w : World) (g : Nat) (t : TypeId) (v : W4) (e : Ending) (w' : World) : Prop := e = .returned (.tuple #[]) ∧ Bk w' g t v.cells ∧ w.grownBy w' (some g)
end Go.Proofs.Ytfmkndemkpecpaa
