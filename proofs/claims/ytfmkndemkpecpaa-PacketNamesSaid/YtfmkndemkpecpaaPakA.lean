/- Reasons and their names (chapter 28); the law PacketNames. -/
import Derived.Test.YtfmkndemkpecpaaAddr
import Derived.Test.YtfmkndemkpecpaaSuS
import Derived.Deep.CutBlock
namespace Go.Proofs.Ytfmkndemkpecpaa
open Go.RowKit
set_option linter.unusedVariables false
set_option linter.unusedSimpArgs false
attribute [local go_sem ↓] sliced_cut
attribute [local go_sem] cutA_zero

def nmL : List ByteArray := [⟨#[102, 105, 110, 101]⟩, ⟨#[115, 104, 111, 114, 116]⟩, ⟨#[109, 97, 108, 102, 111, 114, 109, 101, 100]⟩, ⟨#[98, 97, 100, 115, 117, 109]⟩, ⟨#[102, 114, 97, 103, 109, 101, 110, 116]⟩, ⟨#[101, 120, 112, 105, 114, 101, 100]⟩, ⟨#[110, 111, 112, 114, 111, 116, 111]⟩, ⟨#[110, 111, 115, 101, 114, 118, 105, 99, 101]⟩, ⟨#[110, 111, 116, 97, 98, 108, 101]⟩, ⟨#[110, 111, 98, 97, 99, 107, 101, 110, 100]⟩, ⟨#[110, 111, 107, 101, 121]⟩, ⟨#[110, 111, 118, 101, 114, 115, 105, 111, 110]⟩, ⟨#[110, 111, 115, 108, 111, 116]⟩, ⟨#[101, 118, 105, 99, 116, 101, 100]⟩, ⟨#[116, 111, 111, 98, 105, 103]⟩, ⟨#[115, 116, 114, 97, 110, 103, 101, 114]⟩]
def nmC : List Value := [.string ⟨#[102, 105, 110, 101]⟩, .string ⟨#[115, 104, 111, 114, 116]⟩, .string ⟨#[109, 97, 108, 102, 111, 114, 109, 101, 100]⟩, .string ⟨#[98, 97, 100, 115, 117, 109]⟩, .string ⟨#[102, 114, 97, 103, 109, 101, 110, 116]⟩, .string ⟨#[101, 120, 112, 105, 114, 101, 100]⟩, .string ⟨#[110, 111, 112, 114, 111, 116, 111]⟩, .string ⟨#[110, 111, 115, 101, 114, 118, 105, 99, 101]⟩, .string ⟨#[110, 111, 116, 97, 98, 108, 101]⟩, .string ⟨#[110, 111, 98, 97, 99, 107, 101, 110, 100]⟩, .string ⟨#[110, 111, 107, 101, 121]⟩, .string ⟨#[110, 111, 118, 101, 114, 115, 105, 111, 110]⟩, .string ⟨#[110, 111, 115, 108, 111, 116]⟩, .string ⟨#[101, 118, 105, 99, 116, 101, 100]⟩, .string ⟨#[116, 111, 111, 98, 105, 103]⟩, .string ⟨#[115, 116, 114, 97, 110, 103, 101, 114]⟩]
theorem nmC_one : ∀ u ∈ nmC, u.oneCell' = true := by decide
theorem nmC_get (k : Nat) (h : k < 16) : ∃ x : ByteArray, nmC[k]? = some (.string x) := by
  match k, h with
  | 0, _ => exact ⟨_, rfl⟩
  | 1, _ => exact ⟨_, rfl⟩
  | 2, _ => exact ⟨_, rfl⟩
  | 3, _ => exact ⟨_, rfl⟩
  | 4, _ => exact ⟨_, rfl⟩
  | 5, _ => exact ⟨_, rfl⟩
  | 6, _ => exact ⟨_, rfl⟩
  | 7, _ => exact ⟨_, rfl⟩
  | 8, _ => exact ⟨_, rfl⟩
  | 9, _ => exact ⟨_, rfl⟩
  | 10, _ => exact ⟨_, rfl⟩
  | 11, _ => exact ⟨_, rfl⟩
  | 12, _ => exact ⟨_, rfl⟩
  | 13, _ => exact ⟨_, rfl⟩
  | 14, _ => exact ⟨_, rfl⟩
  | 15, _ => exact ⟨_, rfl⟩
  | (j + 16), h => exact absurd h (by omega)
set_option maxHeartbeats 4000000 in
set_option maxRecDepth 100000 in
theorem names (r : Int) (hi : -9223372036854775808 ≤ r ∧ r ≤ 9223372036854775807) : ∃ x : ByteArray, (∀ w, Calls Try.prog 15 #[.int .i64 r] w (RetV w (.string x))) ∧ (∀ w, Calls Try.prog 16 #[.int .i64 r] w (RetV w (.string x))) := by
  by_cases h0 : r < 0
  · have d0 : decide (r < 0) = true := by simp only [decide_eq_true_eq]; omega
    refine ⟨⟨#[]⟩, fun w => ?_, fun w => ?_⟩
    · clear h0 hi
      go_enter Try.func15, Try.ntmps15
      go_wp2
      go_ret
      exact RetV.is_ rfl (Below.refl _ _)
    · clear h0 hi
      go_enter Try.func16, Try.ntmps16
      go_wp2
      go_ret
      exact RetV.is_ rfl (by first | exact Below.refl _ _ | exact Below.allocS (Below.refl _ _) _)
  have d0 : decide (r < 0) = false := by simp only [decide_eq_false_iff_not]; omega
  obtain ⟨k, rfl⟩ := Int.eq_ofNat_of_zero_le (show 0 ≤ r by omega)
  by_cases h1 : 16 ≤ k
  · have d1 : decide (16 ≤ (k : Int)) = true := by simp only [decide_eq_true_eq]; omega
    have d2 : decide (15 < (k : Int)) = true := by simp only [decide_eq_true_eq]; omega
    have d3 : decide (16 ≤ k) = true := by simp only [decide_eq_true_eq]; omega
    have d4 : decide (15 < k) = true := by simp only [decide_eq_true_eq]; omega
    refine ⟨⟨#[]⟩, fun w => ?_, fun w => ?_⟩
    · clear h0 hi h1
      go_enter Try.func15, Try.ntmps15
      go_wp2
      go_ret
      exact RetV.is_ rfl (Below.refl _ _)
    · clear h0 hi h1
      go_enter Try.func16, Try.ntmps16
      go_wp2
      go_ret
      exact RetV.is_ rfl (by first | exact Below.refl _ _ | exact Below.allocS (Below.refl _ _) _)
  have d1 : decide (16 ≤ (k : Int)) = false := by simp only [decide_eq_false_iff_not]; omega
  have d2 : decide (15 < (k : Int)) = false := by simp only [decide_eq_false_iff_not]; omega
  have d3 : decide (16 ≤ k) = false := by simp only [decide_eq_false_iff_not]; omega
  have d4 : decide (15 < k) = false := by simp only [decide_eq_false_iff_not]; omega
  have j1 : (k : Int) < 16 := by omega
  have j2 : k < 16 := by omega
  obtain ⟨x, hx⟩ := nmC_get k j2
  refine ⟨x, fun w => ?_, fun w => ?_⟩
  · clear h0 hi h1
    have szN : (Try.prog.info? 154).map (·.size) = some nmC.length := by kernel_rfl
    go_enter Try.func15, Try.ntmps15
    go_upto_region 4 with (refine at_op (.store 154 (.tmp 3) (.tmp 10)) rfl ?_; refine wpList_stA (t := 154) 154 (.tmp 3) (.tmp 10) rfl rfl nmC (List.replicate 16 (.string ⟨#[]⟩)) rfl nmC_one rfl rfl ?_ szN ?_; (· refine Bk.newK _ _ _ ?_ rfl; simp [size_plus]); intro W hX gr)
    have y : W.cell? ⟨w.heap.size, k, none⟩ = some (.string x) := (hX.cell k).trans hx
    have be := below_grown (Below.allocS (Below.refl _ _) _) gr (Nat.le_refl _)
    clear gr hX hx
    go_wp2
    go_ret
    exact RetV.is_ rfl be
  · clear h0 hi h1
    go_enter Try.func16, Try.ntmps16
    go_upto_region 2 with (fail)
    have y : (w.alloc (.cells #[.string ⟨#[102, 105, 110, 101]⟩, .string ⟨#[115, 104, 111, 114, 116]⟩, .string ⟨#[109, 97, 108, 102, 111, 114, 109, 101, 100]⟩, .string ⟨#[98, 97, 100, 115, 117, 109]⟩, .string ⟨#[102, 114, 97, 103, 109, 101, 110, 116]⟩, .string ⟨#[101, 120, 112, 105, 114, 101, 100]⟩, .string ⟨#[110, 111, 112, 114, 111, 116, 111]⟩, .string ⟨#[110, 111, 115, 101, 114, 118, 105, 99, 101]⟩, .string ⟨#[110, 111, 116, 97, 98, 108, 101]⟩, .string ⟨#[110, 111, 98, 97, 99, 107, 101, 110, 100]⟩, .string ⟨#[110, 111, 107, 101, 121]⟩, .string ⟨#[110, 111, 118, 101, 114, 115, 105, 111, 110]⟩, .string ⟨#[110, 111, 115, 108, 111, 116]⟩, .string ⟨#[101, 118, 105, 99, 116, 101, 100]⟩, .string ⟨#[116, 111, 111, 98, 105, 103]⟩, .string ⟨#[115, 116, 114, 97, 110, 103, 101, 114]⟩] 9)).cell? ⟨w.heap.size, k, none⟩ = some (.string x) := ((Bk.new w 9 #[.string ⟨#[102, 105, 110, 101]⟩, .string ⟨#[115, 104, 111, 114, 116]⟩, .string ⟨#[109, 97, 108, 102, 111, 114, 109, 101, 100]⟩, .string ⟨#[98, 97, 100, 115, 117, 109]⟩, .string ⟨#[102, 114, 97, 103, 109, 101, 110, 116]⟩, .string ⟨#[101, 120, 112, 105, 114, 101, 100]⟩, .string ⟨#[110, 111, 112, 114, 111, 116, 111]⟩, .string ⟨#[110, 111, 115, 101, 114, 118, 105, 99, 101]⟩, .string ⟨#[110, 111, 116, 97, 98, 108, 101]⟩, .string ⟨#[110, 111, 98, 97, 99, 107, 101, 110, 100]⟩, .string ⟨#[110, 111, 107, 101, 121]⟩, .string ⟨#[110, 111, 118, 101, 114, 115, 105, 111, 110]⟩, .string ⟨#[110, 111, 115, 108, 111, 116]⟩, .string ⟨#[101, 118, 105, 99, 116, 101, 100]⟩, .string ⟨#[116, 111, 111, 98, 105, 103]⟩, .string ⟨#[115, 116, 114, 97, 110, 103, 101, 114]⟩]).cell k).trans hx
    have be : Below w.heap.size w (w.alloc (.cells #[.string ⟨#[102, 105, 110, 101]⟩, .string ⟨#[115, 104, 111, 114, 116]⟩, .string ⟨#[109, 97, 108, 102, 111, 114, 109, 101, 100]⟩, .string ⟨#[98, 97, 100, 115, 117, 109]⟩, .string ⟨#[102, 114, 97, 103, 109, 101, 110, 116]⟩, .string ⟨#[101, 120, 112, 105, 114, 101, 100]⟩, .string ⟨#[110, 111, 112, 114, 111, 116, 111]⟩, .string ⟨#[110, 111, 115, 101, 114, 118, 105, 99, 101]⟩, .string ⟨#[110, 111, 116, 97, 98, 108, 101]⟩, .string ⟨#[110, 111, 98, 97, 99, 107, 101, 110, 100]⟩, .string ⟨#[110, 111, 107, 101, 121]⟩, .string ⟨#[110, 111, 118, 101, 114, 115, 105, 111, 110]⟩, .string ⟨#[110, 111, 115, 108, 111, 116]⟩, .string ⟨#[101, 118, 105, 99, 116, 101, 100]⟩, .string ⟨#[116, 111, 111, 98, 105, 103]⟩, .string ⟨#[115, 116, 114, 97, 110, 103, 101, 114]⟩] 9)) := Below.allocS (Below.refl _ _) _
    generalize w.alloc (.cells #[.string ⟨#[102, 105, 110, 101]⟩, .string ⟨#[115, 104, 111, 114, 116]⟩, .string ⟨#[109, 97, 108, 102, 111, 114, 109, 101, 100]⟩, .string ⟨#[98, 97, 100, 115, 117, 109]⟩, .string ⟨#[102, 114, 97, 103, 109, 101, 110, 116]⟩, .string ⟨#[101, 120, 112, 105, 114, 101, 100]⟩, .string ⟨#[110, 111, 112, 114, 111, 116, 111]⟩, .string ⟨#[110, 111, 115, 101, 114, 118, 105, 99, 101]⟩, .string ⟨#[110, 111, 116, 97, 98, 108, 101]⟩, .string ⟨#[110, 111, 98, 97, 99, 107, 101, 110, 100]⟩, .string ⟨#[110, 111, 107, 101, 121]⟩, .string ⟨#[110, 111, 118, 101, 114, 115, 105, 111, 110]⟩, .string ⟨#[110, 111, 115, 108, 111, 116]⟩, .string ⟨#[101, 118, 105, 99, 116, 101, 100]⟩, .string ⟨#[116, 111, 111, 98, 105, 103]⟩, .string ⟨#[115, 116, 114, 97, 110, 103, 101, 114]⟩] 9) = W at *
    clear hx
    go_wp2
    go_ret
    exact RetV.is_ rfl be
/-- the reason of an error -/
def ofN (e : Int) : Int := if e = 0 then 0 else if e = 20 then 1 else if e = 22 then 3 else if e = 24 then 11 else if e = 25 then 12 else if e = 26 then 10 else if e = 28 then 13 else 2
theorem ofP (e : Int) (w : World) : Calls Try.prog 17 #[.int .i64 e] w fun x w' => x = .returned (.int .i64 (ofN e)) ∧ w = w' := by
  by_cases h0 : e = 0
  · subst h0
    go_enter Try.func17, Try.ntmps17
    go_wp2
    go_ret
    exact ⟨rfl, rfl⟩
  by_cases h20 : e = 20
  · subst h20
    go_enter Try.func17, Try.ntmps17
    go_wp2
    go_ret
    exact ⟨rfl, rfl⟩
  by_cases h22 : e = 22
  · subst h22
    go_enter Try.func17, Try.ntmps17
    go_wp2
    go_ret
    exact ⟨rfl, rfl⟩
  by_cases h24 : e = 24
  · subst h24
    go_enter Try.func17, Try.ntmps17
    go_wp2
    go_ret
    exact ⟨rfl, rfl⟩
  by_cases h25 : e = 25
  · subst h25
    go_enter Try.func17, Try.ntmps17
    go_wp2
    go_ret
    exact ⟨rfl, rfl⟩
  by_cases h26 : e = 26
  · subst h26
    go_enter Try.func17, Try.ntmps17
    go_wp2
    go_ret
    exact ⟨rfl, rfl⟩
  by_cases h28 : e = 28
  · subst h28
    go_enter Try.func17, Try.ntmps17
    go_wp2
    go_ret
    exact ⟨rfl, rfl⟩
  have hz : Hid (ofN e = 2) := Lib.hid (by unfold ofN; simp only [h0, h20, h22, h24, h25, h26, h28, if_false])
  have b0 : (e == 0) = false := by rw [beq_eq_false_iff_ne]; exact h0
  have b20 : (e == 20) = false := by rw [beq_eq_false_iff_ne]; exact h20
  have b22 : (e == 22) = false := by rw [beq_eq_false_iff_ne]; exact h22
  have b24 : (e == 24) = false := by rw [beq_eq_false_iff_ne]; exact h24
  have b25 : (e == 25) = false := by rw [beq_eq_false_iff_ne]; exact h25
  have b26 : (e == 26) = false := by rw [beq_eq_false_iff_ne]; exact h26
  have b28 : (e == 28) = false := by rw [beq_eq_false_iff_ne]; exact h28
  clear h0 h20 h22 h24 h25 h26 h28
  go_enter Try.func17, Try.ntmps17
  go_wp2
  go_ret
  exact ⟨by rw [hz.out]; rfl, rfl⟩
theorem ofR (e : Int) (w : World) : Calls Try.prog 18 #[.int .i64 e] w fun x w' => x = .returned (.int .i64 (ofN e)) ∧ w = w' := by
  by_cases h0 : e = 0
  · subst h0
    go_enter Try.func18, Try.ntmps18
    go_wp2
    go_ret
    exact ⟨rfl, rfl⟩
  by_cases h20 : e = 20
  · subst h20
    go_enter Try.func18, Try.ntmps18
    go_wp2
    go_ret
    exact ⟨rfl, rfl⟩
  by_cases h22 : e = 22
  · subst h22
    go_enter Try.func18, Try.ntmps18
    go_wp2
    go_ret
    exact ⟨rfl, rfl⟩
  by_cases h24 : e = 24
  · subst h24
    go_enter Try.func18, Try.ntmps18
    go_wp2
    go_ret
    exact ⟨rfl, rfl⟩
  by_cases h25 : e = 25
  · subst h25
    go_enter Try.func18, Try.ntmps18
    go_wp2
    go_ret
    exact ⟨rfl, rfl⟩
  by_cases h26 : e = 26
  · subst h26
    go_enter Try.func18, Try.ntmps18
    go_wp2
    go_ret
    exact ⟨rfl, rfl⟩
  by_cases h28 : e = 28
  · subst h28
    go_enter Try.func18, Try.ntmps18
    go_wp2
    go_ret
    exact ⟨rfl, rfl⟩
  have hz : Hid (ofN e = 2) := Lib.hid (by unfold ofN; simp only [h0, h20, h22, h24, h25, h26, h28, if_false])
  have b0 : (e == 0) = false := by rw [beq_eq_false_iff_ne]; exact h0
  have b20 : (e == 20) = false := by rw [beq_eq_false_iff_ne]; exact h20
  have b22 : (e == 22) = false := by rw [beq_eq_false_iff_ne]; exact h22
  have b24 : (e == 24) = false := by rw [beq_eq_false_iff_ne]; exact h24
  have b25 : (e == 25) = false := by rw [beq_eq_false_iff_ne]; exact h25
  have b26 : (e == 26) = false := by rw [beq_eq_false_iff_ne]; exact h26
  have b28 : (e == 28) = false := by rw [beq_eq_false_iff_ne]; exact h28
  clear h0 h20 h22 h24 h25 h26 h28
  go_enter Try.func18, Try.ntmps18
  go_wp2
  go_ret
  exact ⟨by rw [hz.out]; rfl, rfl⟩
end Go.Proofs.Ytfmkndemkpecpaa
