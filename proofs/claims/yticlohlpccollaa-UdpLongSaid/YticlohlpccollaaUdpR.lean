/- The law UdpReads (chapter 7). -/
import Derived.Test.YticlohlpccollaaUdpP
import Derived.Test.YticlohlpccollaaUdpA
namespace Go.Proofs.Yticlohlpccollaa
open Go.RowKit
set_option linter.unusedVariables false
set_option linter.unusedSimpArgs false
attribute [local go_sem ↓] sliced_cut
attribute [local go_sem] cutA_zero

set_option maxHeartbeats 2000000 in
theorem udpIs_any (a b s : Int) (A : Option Addr) (n k : Nat) (A' : Option Addr) (n' k' : Nat) (l : List UInt8) (w : World) (h1 : Rb w A n k l) (h3 : Rb w A' n' k' l) :
    Calls Try.prog 23 #[.agg #[.int .u16 a, .int .u16 b, .int .u16 s, .slice A n k], .agg #[.int .u16 a, .int .u16 b, .int .u16 s, .slice A' n' k']] w (RetV w (.bool true)) := by
  have e1 := fun o1 o2 => run_str bt Try.underlying9 ((h1.alloc o1).alloc o2)
  have e3 := fun o1 o2 => run_str bt Try.underlying9 ((h3.alloc o1).alloc o2)
  go_enter Try.func23, Try.ntmps23
  go_wp2
  go_ret
  exact RetV.mk (((Below.refl _ _).alloc (Nat.le_refl _) _).alloc (by simp) _)
set_option maxHeartbeats 4000000 in
/-- the law, where both sides read alike -/
theorem udpReads_of (w : World) (A : Option Addr) (n c : Nat) (l : List UInt8) (hr : Rb w A n c l) (hn : n ≤ 3000) (x0 x1 x2 : Nat) (o1 : List UInt8) (v : Int)
    (HP : Calls Try.prog 21 #[.slice A n c] w (RetDg w x0 x1 x2 o1 (.int .i64 v))) (HR : ∀ W, Rb W A n c l → Calls Try.prog 22 #[.slice A n c] W (RetDg W x0 x1 x2 o1 (.int .i64 v))) :
    Calls Try.prog 4 #[.slice A n c] w fun e w' => e = .returned (.bool true) ∧ Below w.heap.size w w' := by
  replace HP := Lib.hid HP
  replace HR := Lib.hid HR
  go_enter Try.func4, Try.ntmps4
  go_wp2_with fail
  refine HP.out.mono ?_
  rintro e w1 ⟨A1, n1, c1, bs1, d1, rfl, rfl, h1⟩
  go_wp2_with fail
  refine (HR.out _ ((hr.plus_ _ _).alloc _)).mono ?_
  rintro e w1 ⟨A3, n3, c3, bs2, d2, rfl, rfl, h3⟩
  go_wp2_with (first
    | (go_at_call 23; refine (udpIs_any _ _ _ _ _ _ _ _ _ o1 _ (((h1.alloc _).plus_ _ _).alloc _) (h3.alloc _)).mono ?_; rintro e w1 ⟨bs3, d3, rfl, rfl⟩)
    | (go_at_call 20; refine (udpAwake _).mono ?_; rintro e w1 ⟨bs4, d4, rfl, rfl⟩))
  go_ret
  refine ⟨rfl, belowP (belowP (Below.allocS (belowP (Below.allocS (below_plus _ _ _) _) _ _) _) _ _) _ _⟩

theorem udpReads_walk (w : World) (A : Option Addr) (c : Nat) (l : List UInt8) (hl : l.length ≤ c) (hc : c ≤ maxLen) (hr : Rd w w.heap.size A (bcs l)) :
    Calls Try.prog 4 #[.slice A l.length c] w fun e w' => e = .returned (.bool true) ∧ Below w.heap.size w w' := by
  by_cases hbig : 3000 < l.length
  · simp only [maxLen] at hc
    go_enter Try.func4, Try.ntmps4
    go_wp2_with (go_at_call 20; refine (udpAwake _).mono ?_; rintro e w1 ⟨bs1, d1, rfl, rfl⟩)
    go_ret
    exact ⟨rfl, below_plus _ _ _⟩
  · obtain ⟨n, hn⟩ : ∃ n, l.length = n := ⟨_, rfl⟩
    have hrb : Rb w A n c l := ⟨hn, by omega, hr⟩
    rw [hn]
    have hn' : n ≤ 3000 := by omega
    by_cases h8 : n < 8
    · exact udpReads_of w A n c l hrb hn' 0 0 0 [] 20 (udpParse_short A n c l w hrb h8) (fun W h => refUdpParse_short A n c l W h h8)
    · have h8' : 8 ≤ n := by omega
      by_cases hs : num ((l.drop 4).take 2) < 8
      · exact udpReads_of w A n c l hrb hn' 0 0 0 [] 21 (udpParse_form A n c l w hrb h8' (by omega) (num ((l.drop 0).take 2)) (num ((l.drop 2).take 2)) (num ((l.drop 4).take 2)) (num ((l.drop 6).take 2)) rfl rfl rfl rfl hs) (fun W h => refUdpParse_form A n c l W h h8' (by omega) (num ((l.drop 0).take 2)) (num ((l.drop 2).take 2)) (num ((l.drop 4).take 2)) (num ((l.drop 6).take 2)) rfl rfl rfl rfl hs)
      · by_cases hz : n < num ((l.drop 4).take 2)
        · exact udpReads_of w A n c l hrb hn' 0 0 0 [] 20 (udpParse_short2 A n c l w hrb h8' (by omega) (num ((l.drop 0).take 2)) (num ((l.drop 2).take 2)) (num ((l.drop 4).take 2)) (num ((l.drop 6).take 2)) rfl rfl rfl rfl (by omega) hz) (fun W h => refUdpParse_short2 A n c l W h h8' (by omega) (num ((l.drop 0).take 2)) (num ((l.drop 2).take 2)) (num ((l.drop 4).take 2)) (num ((l.drop 6).take 2)) rfl rfl rfl rfl (by omega) hz)
        · exact udpReads_of w A n c l hrb hn' _ _ _ _ 0 (udpParse_ok A n c l w hrb h8' (by omega) (num ((l.drop 0).take 2)) (num ((l.drop 2).take 2)) (num ((l.drop 4).take 2)) (num ((l.drop 6).take 2)) rfl rfl rfl rfl (by omega) (by omega)) (fun W h => refUdpParse_ok A n c l W h h8' (by omega) (num ((l.drop 0).take 2)) (num ((l.drop 2).take 2)) (num ((l.drop 4).take 2)) (num ((l.drop 6).take 2)) rfl rfl rfl rfl (by omega) (by omega))
end Go.Proofs.Yticlohlpccollaa
