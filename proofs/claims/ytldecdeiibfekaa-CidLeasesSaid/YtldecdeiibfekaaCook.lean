/- The package cookie: mask, Right, Word, Of, Hide, Seek. -/
import Derived.Test.YtldecdeiibfekaaRingA
import Derived.Test.YtldecdeiibfekaaSipF
import Derived.Test.YtldecdeiibfekaaAddr
namespace Go.Proofs.Ytldecdeiibfekaa
open Go.RowKit
set_option linter.unusedVariables false
set_option linter.unusedSimpArgs false
attribute [local go_sem ↓] sliced_cut
attribute [local go_sem] cutA_zero

/-- a flow -/
structure Flw where
  s6 : Bool
  sh : Nat
  sl : Nat
  d6 : Bool
  dh : Nat
  dl : Nat
  sp : Nat
  dp : Nat
  pr : Nat
structure Flw.ok (f : Flw) : Prop where
  sh : f.sh < 18446744073709551616
  sl : f.sl < 18446744073709551616
  dh : f.dh < 18446744073709551616
  dl : f.dl < 18446744073709551616
  sp : f.sp < 65536
  dp : f.dp < 65536
  pr : f.pr < 256
def Flw.cells (f : Flw) : List Value := [.bool f.s6, .int .u64 f.sh, .int .u64 f.sl, .bool f.d6, .int .u64 f.dh, .int .u64 f.dl, .int .u16 f.sp, .int .u16 f.dp, .int .u8 f.pr]
def Flw.key (f : Flw) : List UInt8 := flowB f.s6 f.sh f.sl f.d6 f.dh f.dl f.sp f.dp f.pr
theorem Flw.key_length (f : Flw) : f.key.length ≤ 40 := by
  have h1 := adrB_length f.s6 f.sh f.sl
  have h2 := adrB_length f.d6 f.dh f.dl
  simp [Flw.key, flowB, dig_length]
  omega
theorem Flw.whole (f : Flw) : ((f.cells).drop 0).take (f.cells).length = f.cells := by rw [List.drop_zero]; exact List.take_of_length_le (Nat.le_refl _)
/-- what hides the words of a flow -/
noncomputable def mskN (key : List UInt8) (f : Flw) : Nat := (sip key (f.key ++ [1])).toNat % 32768
theorem mskN_lt (key : List UInt8) (f : Flw) : mskN key f < 32768 := Nat.mod_lt _ (by decide)
set_option maxHeartbeats 1000000 in
set_option maxRecDepth 100000 in
theorem plRight_yes (v s : Nat) (w : World) (hv : v < 8) (hs : s < 4096) : Calls Try.prog 104 #[.agg #[.int .i64 (v : Int), .int .i64 (s : Int)]] w (RetV w (.bool true)) := by
  go_enter Try.func104, Try.ntmps104
  go_wp2
  go_ret
  exact RetV.is_ (by simp; omega) ((Below.refl _ _).alloc (Nat.le_refl _) _)
set_option maxHeartbeats 1000000 in
set_option maxRecDepth 100000 in
theorem plWord_any (v s : Nat) (w : World) (hv : v < 8) (hs : s < 4096) : Calls Try.prog 107 #[.agg #[.int .i64 (v : Int), .int .i64 (s : Int)]] w (RetV w (.int .u16 ((4096 * v + s : Nat) : Int))) := by
  go_enter Try.func107, Try.ntmps107
  go_wp2_with (go_at_call 104; refine (plRight_yes _ _ _ hv hs).mono ?_; rintro e w1 ⟨bs1, d1, rfl, rfl⟩)
  go_ret
  exact RetV.is_ (by simp) (belowP ((Below.refl _ _).alloc (Nat.le_refl _) _) _ _)
theorem and_15 (x : Nat) (h : x < 65536) : bits .and .u16 (x : Int) 32767 = ((x % 32768 : Nat) : Int) := by
  have := u16_and_nat x 32767 h (by decide)
  rw [show (32767 : Nat) = 2 ^ 15 - 1 from rfl, Nat.and_two_pow_sub_one_eq_mod] at this
  exact this
set_option maxHeartbeats 1000000 in
set_option maxRecDepth 100000 in
theorem ckOf_any (x : Nat) (w : World) (h : x < 65536) : Calls Try.prog 117 #[.int .u16 (x : Int)] w (RetV w (.agg #[.int .i64 ((x % 32768 / 4096 : Nat) : Int), .int .i64 ((x % 32768 % 4096 : Nat) : Int)])) := by
  have h1 := and_15 x h
  have h2 : x % 32768 < 32768 := Nat.mod_lt _ (by decide)
  generalize x % 32768 = y at *
  go_enter Try.func117, Try.ntmps117
  go_wp2
  refine bodyPost_ret (v := .agg #[.int .i64 ((y / 4096 : Nat) : Int), .int .i64 ((y % 4096 : Nat) : Int)]) (by simp [results, Try.results117, go_sem]) rfl (RetV.mk ?_)
  exact Below.allocS (Below.refl _ _) _

def plC (v s : Nat) : List Value := [.int .i64 (v : Int), .int .i64 (s : Int)]
theorem plC_whole (v s : Nat) : ((plC v s).drop 0).take (plC v s).length = plC v s := rfl
theorem szPl (v s : Nat) : (Try.prog.info? 53).map (·.size) = some (plC v s).length := by kernel_rfl
theorem rowPl : ∃ d, Try.prog.underlying 53 = some d ∧ d.isRow = true := ⟨_, Try.underlying53, rfl⟩
/-- what hides a word: the bit ahead of it -/
def hidN (b wd m : Nat) : Nat := b * 32768 + (wd ^^^ m)
theorem hid_or (b wd m : Nat) (hb : b < 2) (hw : wd < 32768) (hm : m < 32768) : bits .or .u16 ((b : Int) * 32768) (bits .xor .u16 (wd : Int) (m : Int)) = ((hidN b wd m : Nat) : Int) := by
  rw [u16_xor_nat wd m (by omega) (by omega)]
  have hx : wd ^^^ m < 2 ^ 15 := Nat.xor_lt_two_pow hw hm
  have e : ((b : Int) * 32768) = ((b * 32768 : Nat) : Int) := by simp
  rw [e, u16_or_nat _ _ (by omega) (by omega)]
  congr 1
  rw [show b * 32768 = 2 ^ 15 * b from by omega, ← Nat.two_pow_add_eq_or_of_lt hx]
  unfold hidN
  omega
theorem hidN_lt (b wd m : Nat) (hb : b < 2) (hw : wd < 32768) (hm : m < 32768) : hidN b wd m < 65536 := by
  have hx : wd ^^^ m < 2 ^ 15 := Nat.xor_lt_two_pow hw hm
  unfold hidN
  omega
end Go.Proofs.Ytldecdeiibfekaa
