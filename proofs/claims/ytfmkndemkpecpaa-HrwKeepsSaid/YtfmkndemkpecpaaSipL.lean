/- Words out of bytes, least significant first: siphash.little and its reference; plain facts. -/
import Derived.Test.YtfmkndemkpecpaaRef01
namespace Go.Proofs.Ytfmkndemkpecpaa
open Go.RowKit
set_option linter.unusedVariables false
attribute [local go_sem ↓] sliced_cut
attribute [local go_sem] cutA_zero

def lnum : List UInt8 → Nat
  | [] => 0
  | b :: l => b.toNat + 256 * lnum l
theorem lnum_append : ∀ (a b : List UInt8), lnum (a ++ b) = lnum a + 256 ^ a.length * lnum b
  | [], b => by simp [lnum]
  | x :: a, b => by
    simp only [List.cons_append, lnum, lnum_append a b, List.length_cons, Nat.pow_succ, Nat.mul_add]
    rw [← Nat.mul_assoc, Nat.mul_comm 256 (256 ^ a.length), Nat.add_assoc]
theorem lnum_lt : ∀ (l : List UInt8), lnum l < 256 ^ l.length
  | [] => by simp [lnum]
  | b :: l => by
    have h := lnum_lt l
    have hb := b.toNat_lt
    simp only [lnum, List.length_cons, Nat.pow_succ]
    omega
theorem lnum_take_succ (l : List UInt8) (j : Nat) (h : j < l.length) : lnum (l.take (j + 1)) = lnum (l.take j) + l[j].toNat * 256 ^ j := by
  rw [List.take_succ_eq_append_getElem h, lnum_append, List.length_take, Nat.min_eq_left (by omega)]
  simp [lnum, Nat.mul_comm]
theorem lnum_drop (l : List UInt8) (j : Nat) (h : j < l.length) : lnum (l.drop j) = l[j].toNat + 256 * lnum (l.drop (j + 1)) := by
  rw [List.drop_eq_getElem_cons h]
  rfl
/-- the word of at most eight bytes -/
def lit (l : List UInt8) : UInt64 := UInt64.ofNat (lnum l)
theorem pow256_le (k : Nat) (h : k ≤ 8) : 256 ^ k ≤ 18446744073709551616 := Nat.le_trans (Nat.pow_le_pow_right (by decide) h) (by decide)
theorem lit_toNat (l : List UInt8) (h : l.length ≤ 8) : (lit l).toNat = lnum l := by
  unfold lit
  rw [UInt64.toNat_ofNat']
  exact Nat.mod_eq_of_lt (Nat.lt_of_lt_of_le (lnum_lt l) (pow256_le _ h))
theorem or_place (N x k P : Nat) (hP : 256 ^ k = P) (hk : k ≤ 7) (hN : N < P) (hx : x < 256) : bits .or .u64 (N : Int) ((x : Int) * (P : Nat)) = ((N + x * P : Nat) : Int) := by
  have h1 : P ≤ 72057594037927936 := by rw [← hP]; exact pow_le_seven k hk
  have h2 : x * P ≤ 255 * 72057594037927936 := Nat.mul_le_mul (by omega) h1
  have h := u64_or_nat N (x * P) (by omega) (by omega)
  have e : (256 : Nat) ^ k = 2 ^ (8 * k) := by rw [Nat.pow_mul]
  rw [Nat.or_comm, nat_join (8 * k) (x * P) N (by rw [← hP, e]; exact Nat.mul_mod_left _ _) (by rw [← e, hP]; exact hN), Nat.add_comm] at h
  simpa using h

theorem or_shl (N x j : Nat) (hj : j ≤ 7) (hN : N < 256 ^ j) (hx : x < 256) : bits .or .u64 (N : Int) (IntKind.u64.wrap ((x : Int) * 2 ^ (8 * j))) = ((N + x * 256 ^ j : Nat) : Int) := by
  have e : (256 : Nat) ^ j = 2 ^ (8 * j) := by rw [Nat.pow_mul]
  have h1 : 256 ^ j ≤ 72057594037927936 := pow_le_seven j hj
  have h2 : x * 256 ^ j ≤ 255 * 72057594037927936 := Nat.mul_le_mul (by omega) h1
  have e2 : (x : Int) * 2 ^ (8 * j) = ((x * 256 ^ j : Nat) : Int) := by rw [e]; simp
  have e3 : IntKind.u64.wrap ((x : Int) * 2 ^ (8 * j)) = (x : Int) * ((256 ^ j : Nat) : Int) := by
    rw [e2, IntKind.wrap_u64, Int.natCast_mul]
    have : ((x * 256 ^ j : Nat) : Int) = (x : Int) * ((256 ^ j : Nat) : Int) := by simp
    omega
  rw [e3]
  exact or_place N x j (256 ^ j) rfl hj hN hx

set_option maxHeartbeats 1000000 in
theorem little_any (A : Option Addr) (n c : Nat) (l : List UInt8) (w : World) (h : Rb w A n c l) (h8 : n ≤ 8) :
    Calls Try.prog 185 #[.slice A n c] w fun e w' => e = .returned (.int .u64 ((lit l).toNat : Int)) ∧ w = w' := by
  have HL := Lib.hid h.1
  have hrd := h.2.2
  rw [lit_toNat l (by rw [HL.out]; exact h8)]
  go_enter Try.func185, Try.ntmps185
  go_wp2
  go_loop [3, 4, 5, 8] (fun x y z i => ∃ j : Nat, j ≤ n ∧ i = .int .i64 j ∧ x = .int .u64 (lnum (l.take j) : Nat)) (fun _ _ _ i => n - (intOf i).toNat)
  case atStart => exact ⟨0, Nat.zero_le _, rfl, rfl⟩
  case round =>
    obtain ⟨j, hj, rfl, rfl⟩ := hrel
    by_cases hlt : j < n
    · obtain ⟨b, off, rfl, hb, hcell⟩ := hrd.at_ (by rw [bcs_length, HL.out]; omega)
      have hjl : j < l.length := by rw [HL.out]; omega
      have hcj : w.cell? ⟨b, off + j, none⟩ = some (.int .u8 (l[j].toNat : Int)) := hcell j _ (bcs_get _ _ hjl)
      have HS := Lib.hid (lnum_take_succ l j hjl)
      have hN : lnum (l.take j) < 256 ^ j := by
        have := lnum_lt (l.take j)
        rwa [List.length_take, Nat.min_eq_left (by omega)] at this
      have hx : l[j].toNat < 256 := l[j].toNat_lt
      have hj8 : j < 8 := by omega
      generalize l[j].toNat = x at *
      generalize lnum (l.take j) = N at *
      clear hcell hrd
      have s1 : (0 : Int) ≤ 8 * (j : Int) := by omega
      have s2 : 8 * (j : Int) ≤ 56 := by omega
      go_wp2
      refine ⟨⟨j + 1, by omega, by go_num, ?_⟩, by simp [intOf]; omega⟩
      rw [HS.out, or_shl N x j (by omega) hN hx]
    · obtain rfl : j = n := by omega
      go_wp2
      go_ret
      rw [List.take_of_length_le (by rw [HL.out]; omega)]
      exact ⟨rfl, rfl⟩

end Go.Proofs.Ytfmkndemkpecpaa
