/- The law TcpReads (chapter 6). -/
import Derived.Test.YticlohlpccollaaTcpQ
import Derived.Test.YticlohlpccollaaTcpAw
namespace Go.Proofs.Yticlohlpccollaa
open Go.RowKit
set_option linter.unusedVariables false
set_option linter.unusedSimpArgs false
attribute [local go_sem ↓] sliced_cut
attribute [local go_sem] cutA_zero

theorem tcpOf_any (a b c d f wi sm ur : Int) (A : Option Addr) (n k : Nat) (A2 : Option Addr) (n2 k2 : Nat) (w : World) : Calls Try.prog 19 #[.agg #[.int .u16 a, .int .u16 b, .int .u32 c, .int .u32 d, .int .u8 f, .int .u16 wi, .int .u16 sm, .int .u16 ur, .slice A n k, .slice A2 n2 k2]] w (RetV w (.agg #[.int .u16 a, .int .u16 b, .int .u32 c, .int .u32 d, .int .u8 f, .int .u16 wi, .int .u16 sm, .int .u16 ur, .slice A n k, .slice A2 n2 k2])) := by
  go_enter Try.func19, Try.ntmps19
  go_wp2
  refine bodyPost_ret (v := .agg #[.int .u16 a, .int .u16 b, .int .u32 c, .int .u32 d, .int .u8 f, .int .u16 wi, .int .u16 sm, .int .u16 ur, .slice A n k, .slice A2 n2 k2]) (by simp [results, Try.results19, go_sem]) rfl (RetV.mk ?_)
  exact ((Below.refl _ _).alloc (Nat.le_refl _) _).alloc (by simp) _
set_option maxHeartbeats 2000000 in
set_option maxRecDepth 100000 in
theorem tcpSame_any (a b c d f wi sm ur : Int) (A : Option Addr) (n k : Nat) (A2 : Option Addr) (n2 k2 : Nat) (A' : Option Addr) (n' k' : Nat) (A3 : Option Addr) (n3 k3 : Nat) (l l2 : List UInt8) (w : World) (h1 : Rb w A n k l) (h2 : Rb w A2 n2 k2 l2) (h3 : Rb w A' n' k' l) (h4 : Rb w A3 n3 k3 l2) :
    Calls Try.prog 18 #[.agg #[.int .u16 a, .int .u16 b, .int .u32 c, .int .u32 d, .int .u8 f, .int .u16 wi, .int .u16 sm, .int .u16 ur, .slice A n k, .slice A2 n2 k2], .agg #[.int .u16 a, .int .u16 b, .int .u32 c, .int .u32 d, .int .u8 f, .int .u16 wi, .int .u16 sm, .int .u16 ur, .slice A' n' k', .slice A3 n3 k3]] w (RetV w (.bool true)) := by
  have e1 := fun o1 o2 => run_str bt Try.underlying9 ((h1.alloc o1).alloc o2)
  have e2 := fun o1 o2 => run_str bt Try.underlying9 ((h2.alloc o1).alloc o2)
  have e3 := fun o1 o2 => run_str bt Try.underlying9 ((h3.alloc o1).alloc o2)
  have e4 := fun o1 o2 => run_str bt Try.underlying9 ((h4.alloc o1).alloc o2)
  go_enter Try.func18, Try.ntmps18
  go_wp2
  go_ret
  exact RetV.mk (((Below.refl _ _).alloc (Nat.le_refl _) _).alloc (by simp) _)
theorem tcpAwakeV (w : World) : Calls Try.prog 15 #[] w (RetV w (.bool true)) := (tcpAwake w).mono fun _ _ ⟨h1, bs, d, h2⟩ => ⟨bs, d, h1, h2⟩

set_option maxHeartbeats 4000000 in
set_option maxRecDepth 100000 in
/-- the law, where both sides read alike -/
theorem tcpReads_of (w : World) (A : Option Addr) (n c : Nat) (l : List UInt8) (hr : Rb w A n c l) (hn : n ≤ 3000) (x0 x1 x2 x3 x4 x5 x6 x7 : Nat) (o1 o2 : List UInt8) (v : Int)
    (HP : Calls Try.prog 16 #[.slice A n c] w (RetSeg w x0 x1 x2 x3 x4 x5 x6 x7 o1 o2 (.int .i64 v))) (HR : ∀ W, Rb W A n c l → Calls Try.prog 17 #[.slice A n c] W (RetSeg W x0 x1 x2 x3 x4 x5 x6 x7 o1 o2 (.int .i64 v))) :
    Calls Try.prog 3 #[.slice A n c] w fun e w' => e = .returned (.bool true) ∧ Below w.heap.size w w' := by
  replace HP := Lib.hid HP
  replace HR := Lib.hid HR
  go_enter Try.func3, Try.ntmps3
  go_wp2_with fail
  refine HP.out.mono ?_
  rintro e w1 ⟨A1, n1, c1, A2, n2, c2, bs1, d1, rfl, rfl, h1, h2⟩
  go_wp2_with fail
  refine (HR.out _ ((hr.plus_ _ _).alloc _)).mono ?_
  rintro e w1 ⟨A3, n3, c3, A4, n4, c4, bs2, d2, rfl, rfl, h3, h4⟩
  go_wp2
  refine wp_plus (by kernel_rfl) (by kernel_rfl) ?_
  repeat (go_big_quiet_step (first
    | (go_at_call 19; exact callP (tcpOf_any _ _ _ _ _ _ _ _ _ _ _ _ _ _ _))
    | (go_at_call 18; exact callP (tcpSame_any _ _ _ _ _ _ _ _ _ _ _ _ _ _ _ _ _ _ _ _ o1 o2 _ ((((h1.alloc _).plus_ _ _).alloc _).plus_ _ _) ((((h2.alloc _).plus_ _ _).alloc _).plus_ _ _) ((h3.alloc _).plus_ _ _) ((h4.alloc _).plus_ _ _)))
    | (go_at_call 15; exact callP (tcpAwakeV _))))
  refine wpQuiet_nil ?_
  rintro _ ⟨x, rfl⟩
  go_wp2
  go_ret
  refine ⟨rfl, belowP (Below.allocS (belowP (Below.allocS (below_plus _ _ _) _) _ _) _) _ _⟩

theorem tcpReads_walk (w : World) (A : Option Addr) (c : Nat) (l : List UInt8) (hl : l.length ≤ c) (hc : c ≤ maxLen) (hr : Rd w w.heap.size A (bcs l)) :
    Calls Try.prog 3 #[.slice A l.length c] w fun e w' => e = .returned (.bool true) ∧ Below w.heap.size w w' := by
  by_cases hbig : 3000 < l.length
  · simp only [maxLen] at hc
    go_enter Try.func3, Try.ntmps3
    go_wp2_with (go_at_call 15; refine (tcpAwakeV _).mono ?_; rintro e w1 ⟨bs1, d1, rfl, rfl⟩)
    go_ret
    exact ⟨rfl, below_plus _ _ _⟩
  · obtain ⟨n, hn⟩ : ∃ n, l.length = n := ⟨_, rfl⟩
    have hrb : Rb w A n c l := ⟨hn, by omega, hr⟩
    rw [hn]
    have hn' : n ≤ 3000 := by omega
    by_cases h20 : n < 20
    · exact tcpReads_of w A n c l hrb hn' 0 0 0 0 0 0 0 0 [] [] 20 (tcpParse_short A n c l w hrb h20) (fun W h => refTcpParse_short A n c l W h h20)
    · have h20' : 20 ≤ n := by omega
      by_cases hs : num ((l.drop 12).take 1) / 16 < 5
      · exact tcpReads_of w A n c l hrb hn' 0 0 0 0 0 0 0 0 [] [] 21 (tcpParse_form1 A n c l w hrb h20' (by omega) (num ((l.drop 0).take 2)) (num ((l.drop 2).take 2)) (num ((l.drop 4).take 4)) (num ((l.drop 8).take 4)) (num ((l.drop 12).take 1)) (num ((l.drop 13).take 1)) (num ((l.drop 14).take 2)) (num ((l.drop 16).take 2)) (num ((l.drop 18).take 2)) rfl rfl rfl rfl rfl rfl rfl rfl rfl hs) (fun W h => refTcpParse_form1 A n c l W h h20' (by omega) (num ((l.drop 0).take 2)) (num ((l.drop 2).take 2)) (num ((l.drop 4).take 4)) (num ((l.drop 8).take 4)) (num ((l.drop 12).take 1)) (num ((l.drop 13).take 1)) (num ((l.drop 14).take 2)) (num ((l.drop 16).take 2)) (num ((l.drop 18).take 2)) rfl rfl rfl rfl rfl rfl rfl rfl rfl hs)
      · by_cases hm : num ((l.drop 12).take 1) % 16 = 0
        · by_cases hz : n < 4 * (num ((l.drop 12).take 1) / 16)
          · exact tcpReads_of w A n c l hrb hn' 0 0 0 0 0 0 0 0 [] [] 20 (tcpParse_short2 A n c l w hrb h20' (by omega) (num ((l.drop 0).take 2)) (num ((l.drop 2).take 2)) (num ((l.drop 4).take 4)) (num ((l.drop 8).take 4)) (num ((l.drop 12).take 1)) (num ((l.drop 13).take 1)) (num ((l.drop 14).take 2)) (num ((l.drop 16).take 2)) (num ((l.drop 18).take 2)) rfl rfl rfl rfl rfl rfl rfl rfl rfl (by omega) hm hz) (fun W h => refTcpParse_short2 A n c l W h h20' (by omega) (num ((l.drop 0).take 2)) (num ((l.drop 2).take 2)) (num ((l.drop 4).take 4)) (num ((l.drop 8).take 4)) (num ((l.drop 12).take 1)) (num ((l.drop 13).take 1)) (num ((l.drop 14).take 2)) (num ((l.drop 16).take 2)) (num ((l.drop 18).take 2)) rfl rfl rfl rfl rfl rfl rfl rfl rfl (by omega) hm hz)
          · exact tcpReads_of w A n c l hrb hn' _ _ _ _ _ _ _ _ _ _ 0 (tcpParse_ok A n c l w hrb h20' (by omega) (num ((l.drop 0).take 2)) (num ((l.drop 2).take 2)) (num ((l.drop 4).take 4)) (num ((l.drop 8).take 4)) (num ((l.drop 12).take 1)) (num ((l.drop 13).take 1)) (num ((l.drop 14).take 2)) (num ((l.drop 16).take 2)) (num ((l.drop 18).take 2)) rfl rfl rfl rfl rfl rfl rfl rfl rfl (by omega) hm _ rfl (by omega)) (fun W h => refTcpParse_ok A n c l W h h20' (by omega) (num ((l.drop 0).take 2)) (num ((l.drop 2).take 2)) (num ((l.drop 4).take 4)) (num ((l.drop 8).take 4)) (num ((l.drop 12).take 1)) (num ((l.drop 13).take 1)) (num ((l.drop 14).take 2)) (num ((l.drop 16).take 2)) (num ((l.drop 18).take 2)) rfl rfl rfl rfl rfl rfl rfl rfl rfl (by omega) hm _ rfl (by omega))
        · exact tcpReads_of w A n c l hrb hn' 0 0 0 0 0 0 0 0 [] [] 21 (tcpParse_form2 A n c l w hrb h20' (by omega) (num ((l.drop 0).take 2)) (num ((l.drop 2).take 2)) (num ((l.drop 4).take 4)) (num ((l.drop 8).take 4)) (num ((l.drop 12).take 1)) (num ((l.drop 13).take 1)) (num ((l.drop 14).take 2)) (num ((l.drop 16).take 2)) (num ((l.drop 18).take 2)) rfl rfl rfl rfl rfl rfl rfl rfl rfl (by omega) hm) (fun W h => refTcpParse_form2 A n c l W h h20' (by omega) (num ((l.drop 0).take 2)) (num ((l.drop 2).take 2)) (num ((l.drop 4).take 4)) (num ((l.drop 8).take 4)) (num ((l.drop 12).take 1)) (num ((l.drop 13).take 1)) (num ((l.drop 14).take 2)) (num ((l.drop 16).take 2)) (num ((l.drop 18).take 2)) rfl rfl rfl rfl rfl rfl rfl rfl rfl (by omega) hm)
end Go.Proofs.Yticlohlpccollaa
