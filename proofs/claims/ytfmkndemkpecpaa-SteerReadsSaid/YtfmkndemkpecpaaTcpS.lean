/- tcp.Stamps and its reference: where the time stamps stand. -/
import Derived.Test.YtfmkndemkpecpaaRef01
namespace Go.Proofs.Ytfmkndemkpecpaa
open Go.RowKit
set_option linter.unusedVariables false
attribute [local go_sem ↓] sliced_cut
attribute [local go_sem] cutA_zero

def bat (l : List UInt8) (i : Nat) : Nat := (l.getD i 0).toNat
theorem bat_lt (l : List UInt8) (i : Nat) : bat l i < 256 := (l.getD i 0).toNat_lt
theorem bat_cell {w : World} {B b off : Nat} {l : List UInt8} (hc : ∀ i u, (bcs l)[i]? = some u → w.cell? ⟨b, off + i, none⟩ = some u) (i : Nat) (hi : i < l.length) : w.cell? ⟨b, off + i, none⟩ = some (.int .u8 (bat l i : Nat)) := by
  rw [hc i _ (bcs_get l i hi)]
  simp [bat, hi]
/-- the search from index i on -/
def stp : Nat → List UInt8 → Nat → Option Nat
  | 0, _, _ => none
  | f + 1, l, i =>
    if l.length ≤ i then none else if bat l i = 0 then none else if bat l i = 1 then stp f l (i + 1) else if l.length - i < 2 then none
    else if bat l (i + 1) < 2 then none else if l.length - i < bat l (i + 1) then none
    else if bat l i = 8 then (if bat l (i + 1) = 10 then some (i + 2) else none) else stp f l (i + bat l (i + 1))
def stampsAt (l : List UInt8) : Option Nat := stp (l.length + 1) l 0
def resS : Option Nat → Value
  | some a => .tuple #[.int .i64 (a : Int), .bool true]
  | none => .tuple #[.int .i64 0, .bool false]
def resT : Option Nat → Value
  | some a => .int .i64 (a : Int)
  | none => .int .i64 (-1)
theorem stp_found : ∀ (f : Nat) (l : List UInt8) (i a : Nat), stp f l i = some a → a + 8 ≤ l.length
  | 0, _, _, _, h => by cases h
  | f + 1, l, i, a, h => by
    unfold stp at h
    repeat' split at h
    all_goals first | (cases h; done) | exact stp_found f l _ a h | (injection h with h; omega)

set_option maxHeartbeats 4000000 in
theorem stamps_any (A : Option Addr) (n c : Nat) (l : List UInt8) (w : World) (h : Rb w A n c l) (hn : n ≤ 1000000) :
    Calls Try.prog 80 #[.slice A n c] w fun e w' => e = .returned (resS (stampsAt l)) ∧ w = w' := by
  obtain ⟨R, eR⟩ : ∃ R, R = stampsAt l := ⟨_, rfl⟩
  rw [← eR]
  have HR := Lib.hid eR
  clear eR
  have HL := Lib.hid h.1
  have hrd := h.2.2
  go_enter Try.func80, Try.ntmps80
  go_wp2
  go_loop [2, 3, 4, 5, 6, 7] (fun x0 x1 x2 x3 x4 x5 => ∃ i f : Nat, x2 = .int .i64 i ∧ i ≤ n ∧ n - i < f ∧ stp f l i = R) (fun _ _ i _ _ _ => n - (intOf i).toNat)
  case atStart => exact ⟨0, l.length + 1, rfl, Nat.zero_le _, by rw [HL.out]; omega, HR.out.symm⟩
  case round =>
    obtain ⟨i, f, rfl, hi, hf, hst⟩ := hrel
    obtain ⟨f, rfl⟩ : ∃ g, f = g + 1 := ⟨f - 1, by omega⟩
    unfold stp at hst
    rw [HL.out] at hst
    by_cases hin : n ≤ i
    · rw [if_pos hin] at hst
      have HS := Lib.hid hst
      clear hst
      have hin' : ¬ i < n := by omega
      go_wp2
      go_ret2
      rw [← HS.out]
      exact ⟨rfl, rfl⟩
    rw [if_neg hin] at hst
    obtain ⟨b, off, rfl, hb, hcell⟩ := hrd.at_ (by rw [bcs_length, HL.out]; omega)
    have hlt : i < n := by omega
    have hc0 := bat_cell (B := 0) hcell i (by rw [HL.out]; omega)
    have hx := bat_lt l i
    have hy := bat_lt l (i + 1)
    have hc1 : i + 1 < n → w.cell? ⟨b, off + (i + 1), none⟩ = some (.int .u8 (bat l (i + 1) : Nat)) := fun h => bat_cell (B := 0) hcell (i + 1) (by rw [HL.out]; omega)
    clear hcell hrd hin
    generalize bat l i = x at *
    generalize bat l (i + 1) = y at *
    by_cases h0 : x = 0
    · rw [if_pos h0] at hst
      have HS := Lib.hid hst
      subst h0
      clear hst hc1
      go_wp2
      go_ret2
      rw [← HS.out]
      exact ⟨rfl, rfl⟩
    rw [if_neg h0] at hst
    have b0 : ((x : Int) == 0) = false := by simpa using h0
    have n0 : ((x : Int) != 0) = true := by simpa using h0
    by_cases h1 : x = 1
    · rw [if_pos h1] at hst
      have HS := Lib.hid hst
      subst h1
      clear hst hc1 b0 n0 h0
      go_wp2
      refine ⟨⟨i + 1, f, by go_num, by omega, by omega, HS.out⟩, by simp [intOf]; omega⟩
    rw [if_neg h1] at hst
    have b1 : ((x : Int) == 1) = false := by simp; omega
    by_cases h2 : n - i < 2
    · rw [if_pos h2] at hst
      have HS := Lib.hid hst
      have hk : i + 1 = n := by omega
      have hk' : ((i : Int) + 1 == (n : Int)) = true := by simp; omega
      clear hst hc1 hk
      go_wp2
      go_ret2
      rw [← HS.out]
      exact ⟨rfl, rfl⟩
    rw [if_neg h2] at hst
    have hk' : ((i : Int) + 1 == (n : Int)) = false := by simp; omega
    have hi1 : i + 1 < n := by omega
    have hcj := hc1 hi1
    rw [← Nat.add_assoc] at hcj
    have hcj2 := hc1 hi1
    clear hc1
    by_cases h3 : y < 2
    · rw [if_pos h3] at hst
      have HS := Lib.hid hst
      have d3 : decide (y < 2) = true := by simpa using h3
      clear hst
      go_wp2
      go_ret2
      rw [← HS.out]
      exact ⟨rfl, rfl⟩
    rw [if_neg h3] at hst
    have d3 : decide (y < 2) = false := by simpa using h3
    by_cases h4 : n - i < y
    · rw [if_pos h4] at hst
      have HS := Lib.hid hst
      clear hst
      go_wp2
      go_ret2
      rw [← HS.out]
      exact ⟨rfl, rfl⟩
    rw [if_neg h4] at hst
    have h4' : ¬ n < i + y := by omega
    by_cases h5 : x = 8
    · rw [if_pos h5] at hst
      subst h5
      by_cases h6 : y = 10
      · rw [if_pos h6] at hst
        have HS := Lib.hid hst
        subst h6
        clear hst
        go_wp2
        go_ret2
        rw [← HS.out]
        exact ⟨rfl, rfl⟩
      · rw [if_neg h6] at hst
        have HS := Lib.hid hst
        have b6 : ((y : Int) != 10) = true := by simp; omega
        clear hst
        go_wp2
        go_ret2
        rw [← HS.out]
        exact ⟨rfl, rfl⟩
    · rw [if_neg h5] at hst
      have HS := Lib.hid hst
      have b5 : ((x : Int) == 8) = false := by simp; omega
      clear hst
      go_wp2
      refine ⟨⟨i + y, f, by go_num, by omega, by omega, HS.out⟩, by simp [intOf]; omega⟩

set_option maxHeartbeats 4000000 in
theorem refStamps_any (A : Option Addr) (n c : Nat) (l : List UInt8) (w : World) (h : Rb w A n c l) (hn : n ≤ 1000000) :
    Calls Try.prog 57 #[.slice A n c] w fun e w' => e = .returned (resT (stampsAt l)) ∧ w = w' := by
  obtain ⟨R, eR⟩ : ∃ R, R = stampsAt l := ⟨_, rfl⟩
  rw [← eR]
  have HR := Lib.hid eR
  clear eR
  have HL := Lib.hid h.1
  have hrd := h.2.2
  go_enter Try.func57, Try.ntmps57
  go_wp2
  go_loop [2, 3, 4] (fun x0 x1 x2 => ∃ i f : Nat, x1 = .int .i64 i ∧ i ≤ n ∧ n - i < f ∧ stp f l i = R) (fun _ i _ => n - (intOf i).toNat)
  case atStart => exact ⟨0, l.length + 1, rfl, Nat.zero_le _, by rw [HL.out]; omega, HR.out.symm⟩
  case round =>
    obtain ⟨i, f, rfl, hi, hf, hst⟩ := hrel
    obtain ⟨f, rfl⟩ : ∃ g, f = g + 1 := ⟨f - 1, by omega⟩
    unfold stp at hst
    rw [HL.out] at hst
    by_cases hin : n ≤ i
    · rw [if_pos hin] at hst
      have HS := Lib.hid hst
      clear hst
      have hin' : ¬ i < n := by omega
      go_wp2
      go_ret
      rw [← HS.out]
      exact ⟨rfl, rfl⟩
    rw [if_neg hin] at hst
    obtain ⟨b, off, rfl, hb, hcell⟩ := hrd.at_ (by rw [bcs_length, HL.out]; omega)
    have hlt : i < n := by omega
    have hc0 := bat_cell (B := 0) hcell i (by rw [HL.out]; omega)
    have hx := bat_lt l i
    have hy := bat_lt l (i + 1)
    have hc1 : i + 1 < n → w.cell? ⟨b, off + (i + 1), none⟩ = some (.int .u8 (bat l (i + 1) : Nat)) := fun h => bat_cell (B := 0) hcell (i + 1) (by rw [HL.out]; omega)
    clear hcell hrd hin
    generalize bat l i = x at *
    generalize bat l (i + 1) = y at *
    by_cases h0 : x = 0
    · rw [if_pos h0] at hst
      have HS := Lib.hid hst
      subst h0
      clear hst hc1
      go_wp2
      go_ret
      rw [← HS.out]
      exact ⟨rfl, rfl⟩
    rw [if_neg h0] at hst
    have b0 : ((x : Int) == 0) = false := by simpa using h0
    have n0 : ((x : Int) != 0) = true := by simpa using h0
    by_cases h1 : x = 1
    · rw [if_pos h1] at hst
      have HS := Lib.hid hst
      subst h1
      clear hst hc1 b0 n0 h0
      go_wp2
      refine ⟨⟨i + 1, f, by go_num, by omega, by omega, HS.out⟩, by simp [intOf]; omega⟩
    rw [if_neg h1] at hst
    have b1 : ((x : Int) == 1) = false := by simp; omega
    by_cases h2 : n - i < 2
    · rw [if_pos h2] at hst
      have HS := Lib.hid hst
      have hk : i + 1 = n := by omega
      have hk' : ((i : Int) + 1 == (n : Int)) = true := by simp; omega
      clear hst hc1 hk
      go_wp2
      go_ret
      rw [← HS.out]
      exact ⟨rfl, rfl⟩
    rw [if_neg h2] at hst
    have hk' : ((i : Int) + 1 == (n : Int)) = false := by simp; omega
    have hi1 : i + 1 < n := by omega
    have hcj := hc1 hi1
    rw [← Nat.add_assoc] at hcj
    have hcj2 := hc1 hi1
    clear hc1
    by_cases h3 : y < 2
    · rw [if_pos h3] at hst
      have HS := Lib.hid hst
      have d3 : decide (y < 2) = true := by simpa using h3
      clear hst
      go_wp2
      go_ret
      rw [← HS.out]
      exact ⟨rfl, rfl⟩
    rw [if_neg h3] at hst
    have d3 : decide (y < 2) = false := by simpa using h3
    by_cases h4 : n - i < y
    · rw [if_pos h4] at hst
      have HS := Lib.hid hst
      clear hst
      go_wp2
      go_ret
      rw [← HS.out]
      exact ⟨rfl, rfl⟩
    rw [if_neg h4] at hst
    have h4' : ¬ n < i + y := by omega
    by_cases h5 : x = 8
    · rw [if_pos h5] at hst
      subst h5
      by_cases h6 : y = 10
      · rw [if_pos h6] at hst
        have HS := Lib.hid hst
        subst h6
        clear hst
        go_wp2
        go_ret
        rw [← HS.out]
        exact ⟨rfl, rfl⟩
      · rw [if_neg h6] at hst
        have HS := Lib.hid hst
        have b6 : ((y : Int) != 10) = true := by simp; omega
        clear hst
        go_wp2
        go_ret
        rw [← HS.out]
        exact ⟨rfl, rfl⟩
    · rw [if_neg h5] at hst
      have HS := Lib.hid hst
      have b5 : ((x : Int) == 8) = false := by simp; omega
      clear hst
      go_wp2
      refine ⟨⟨i + y, f, by go_num, by omega, by omega, HS.out⟩, by simp [intOf]; omega⟩
end Go.Proofs.Ytfmkndemkpecpaa
