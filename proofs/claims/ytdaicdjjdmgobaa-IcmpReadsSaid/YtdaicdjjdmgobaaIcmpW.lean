/- The walks of the laws of chapter 8. -/
import Derived.Test.YtdaicdjjdmgobaaIcmp
namespace Go.Proofs.Ytdaicdjjdmgobaa
open Go.RowKit
set_option linter.unusedVariables false
attribute [local go_sem ↓] sliced_cut
attribute [local go_sem] cutA_zero

set_option maxHeartbeats 1000000 in
theorem icmpAwake (w : World) : Calls Try.prog 21 #[] w fun e w' => e = .returned (.bool true) ∧ ∃ bs d, w' = plus w bs d := by
  go_enter Try.func21, Try.ntmps21
  go_wp2_with fail
  refine (icmpBig_any _ _ _ [7, 8, 9] 1400 false _ (Ob.lit w (Nat.le_refl _) #[.int .u8 7, .int .u8 8, .int .u8 9] [7, 8, 9] 3 rfl (by decide) rfl).rb (by omega) (by omega) (by omega)).mono ?_
  rintro e w1 ⟨A1, n1, c1, bs1, d1, rfl, rfl, ho1⟩
  have l1 : n1 ≤ 100 := by have := ho1.len; simp at this; omega
  go_wp2_with fail
  refine (icmpBytes_any _ _ _ _ _ _ _ _ _ (by omega) (by omega) (by omega) (by omega) ho1.rb (by omega)).mono ?_
  rintro e w2 ⟨A2, n2, c2, bs2, d2, rfl, rfl, ho2⟩
  have hl := ho2.len
  obtain rfl : n2 = 11 := by rw [← hl]; rfl
  clear hl
  obtain ⟨b, off, rfl, _, hc⟩ := ho2.rb.2.2.at_ (by decide)
  have h0 := hc 0 (.int .u8 3) rfl
  rw [Nat.add_zero] at h0
  have h1 := hc 1 (.int .u8 4) rfl
  clear hc
  go_wp2
  go_ret
  refine ⟨rfl, plus_of (toPlus (toPlus ((Below.refl _ _).alloc (Nat.le_refl _) _) (by simp) _ _) (by simp [size_plus]; omega) _ _)⟩

set_option maxHeartbeats 1000000 in
theorem icmpBig_walk (w : World) (A : Option Addr) (c : Nat) (l : List UInt8) (hl : l.length ≤ c) (hc : c ≤ maxLen) (hr : Rd w w.heap.size A (bcs l)) (most : Int) (hm : 0 ≤ most ∧ most ≤ 65535) (six : Bool) :
    Calls Try.prog 5 #[.slice A l.length c, .int .u16 most, .bool six] w fun e w' => e = .returned (.bool true) ∧ Below w.heap.size w w' := by
  obtain ⟨m0, m1⟩ := hm
  by_cases hbig : 4000 < l.length
  · simp only [maxLen] at hc
    go_enter Try.func5, Try.ntmps5
    go_wp2_with (go_at_call 21; refine (icmpAwake _).mono ?_; rintro e w1 ⟨rfl, bs1, d1, rfl⟩)
    go_ret
    exact ⟨rfl, below_plus _ _ _⟩
  · obtain ⟨n, hn⟩ : ∃ n, l.length = n := ⟨_, rfl⟩
    have hrb : Rb w A n c l := ⟨hn, by omega, hr⟩
    rw [hn]
    have hn' : n ≤ 4000 := by omega
    clear hr hn hl hbig hc
    go_enter Try.func5, Try.ntmps5
    go_wp2_with fail
    refine (icmpBig_any A n c l most six _ hrb hn' m0 m1).mono ?_
    rintro e w1 ⟨A1, n1, c1, bs1, d1, rfl, rfl, ho1⟩
    go_wp2_with fail
    refine (icmpOf_any _ _ _ _ _ _ _ _).mono ?_
    rintro e w1 ⟨rfl, bs2, d2, rfl⟩
    go_wp2_with fail
    refine (refBig_any A n c l most six _ ((hrb.plus_ _ _).plus_ _ _) hn' m0 m1).mono ?_
    rintro e w1 ⟨A3, n3, c3, bs3, d3, rfl, rfl, ho3⟩
    go_wp2_with fail
    refine (icmpSame_any _ _ _ _ _ _ _ _ _ _ _ _ ((ho1.rb.plus_ _ _).plus_ _ _) ho3.rb).mono ?_
    rintro e w1 ⟨rfl, bs4, d4, rfl⟩
    go_wp2_with (go_at_call 21; refine (icmpAwake _).mono ?_; rintro e w1 ⟨rfl, bs5, d5, rfl⟩)
    go_ret
    exact ⟨rfl, toPlus (toPlus (toPlus (toPlus (below_plus _ _ _) (by simp [size_plus]) _ _) (by simp [size_plus]; omega) _ _) (by simp [size_plus]; omega) _ _) (by simp [size_plus]; omega) _ _⟩
end Go.Proofs.Ytdaicdjjdmgobaa
