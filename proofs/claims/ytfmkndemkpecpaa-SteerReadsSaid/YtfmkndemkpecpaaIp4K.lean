/- Packets of IPv4: Packet. -/
import Derived.Test.YtfmkndemkpecpaaIp4E
import Derived.Test.YtfmkndemkpecpaaIp4C
import Derived.Test.YtfmkndemkpecpaaRet
namespace Go.Proofs.Ytfmkndemkpecpaa
open Go.RowKit
set_option linter.unusedVariables false
set_option linter.unusedSimpArgs false
attribute [local go_sem ↓] sliced_cut
attribute [local go_sem] cutA_zero

set_option maxHeartbeats 4000000 in
set_option maxRecDepth 100000 in
theorem packet4_ok (ts : Nat) (l0 : Int) (id : Nat) (st mo : Bool) (fo tl pr sm sl dl : Nat) (A : Option Addr) (n k : Nat) (o : List UInt8) (A2 : Option Addr) (m c2 : Nat) (load : List UInt8) (w : World) (hr : Rb w A n k o) (h2 : Rb w A2 m c2 load) (b1 : ts < 256) (b2 : id < 65536) (b3 : tl < 256) (b4 : pr < 256) (b5 : sl < 4294967296) (b6 : dl < 4294967296) (d1 : n ≤ 40) (d2 : n % 4 = 0) (c4 : 20 + n + m ≤ 65535) (c5 : fo ≤ 8191) : Calls Try.prog 48 #[.agg (h4C ts l0 id st mo (fo : Int) tl pr sm false 0 sl false 0 dl A n k).toArray, .slice A2 m c2] w (RetBE w (ip4B ts (20 + n + m) id (pl4 st mo fo) tl pr (ip4K ts (20 + n + m) id (pl4 st mo fo) tl pr sl dl o) sl dl o ++ load) 0) := by
  obtain ⟨du, u1, u2⟩ := rowH4
  obtain ⟨z, hz0⟩ : ∃ z : Nat, z = 20 + n := ⟨_, rfl⟩
  have HS := Lib.hid (fun w => size4 ts l0 id st mo (fo : Int) tl pr sm false 0 sl false 0 dl A n k w (by omega))
  rw [← hz0] at HS
  obtain ⟨L, hL⟩ : ∃ L : Nat, L = z + m := ⟨_, rfl⟩
  have a1 : IntKind.i64.wrap ((z : Int) + (m : Int)) = (L : Int) := by rw [IntWalk.i64_in _ (by omega)]; omega
  have a2 : IntKind.i64.wrap (20 + (n : Int)) = (z : Int) := by rw [IntWalk.i64_in _ (by omega)]; omega
  have a3 : decide (65535 < (L : Int)) = false := by simp only [decide_eq_false_iff_not]; omega
  have a4 : decide (65535 < L) = false := by simp only [decide_eq_false_iff_not]; omega
  have hb : Bk (w.alloc (.cells (h4C ts l0 id st mo (fo : Int) tl pr sm false 0 sl false 0 dl A n k).toArray 140)) w.heap.size 140 (h4C ts l0 id st mo (fo : Int) tl pr sm false 0 sl false 0 dl A n k) := Bk.new w 140 (h4C ts l0 id st mo (fo : Int) tl pr sm false 0 sl false 0 dl A n k).toArray
  have be : Below w.heap.size w (w.alloc (.cells (h4C ts l0 id st mo (fo : Int) tl pr sm false 0 sl false 0 dl A n k).toArray 140)) := Below.allocS (Below.refl _ _) _
  have HR := Lib.hid (fun w => right4 ts (L : Int) id st mo (fo : Int) tl pr sm false 0 sl false 0 dl A n k w (by omega) (by omega) (by omega) (by omega) (by omega) (by omega) (by omega))
  rw [r4_yes n L fo sl dl d1 d2 (by omega) (by omega) c5 b5 b6] at HR
  have HB := Lib.hid (fun w (hr : Rb w A n k o) => ip4Bytes_yes ts L id st mo fo tl pr sm sl dl A n k o w hr b1 b2 b3 b4 b5 b6 d1 d2 (by omega) (by omega) c5)
  have hlen := ip4B_length ts L id (pl4 st mo fo) tl pr (ip4K ts L id (pl4 st mo fo) tl pr sl dl o) sl dl o
  rw [hr.1] at hlen
  rw [show 20 + n + m = L from by omega]
  generalize ip4B ts L id (pl4 st mo fo) tl pr (ip4K ts L id (pl4 st mo fo) tl pr sl dl o) sl dl o = B at *
  clear hz0 hL
  go_enter Try.func48, Try.ntmps48
  go_upto_region 1 with (fail)
  generalize w.alloc (.cells (h4C ts l0 id st mo (fo : Int) tl pr sm false 0 sl false 0 dl A n k).toArray 140) = W at *
  have y15 : W.cell? ⟨w.heap.size, 15, none⟩ = some (.slice A n k) := hb.cell 15
  have y1 : W.cell? ⟨w.heap.size, 1, none⟩ = some (.int .i64 l0) := hb.cell 1
  have fr := hb.frozen 1
  have zb := hb.lt
  go_wp2_with (refine at_op (.load 140 (.tmp 2)) rfl ?_; refine wpList_ldA (t := 140) 140 (.tmp 2) rfl rfl (h4C ts l0 id st mo (fo : Int) tl pr sm false 0 sl false 0 dl A n k) rfl (by with_reducible repeat (first | exact hb | refine Bk.later ?_ (below_plus _ _ _) | refine Bk.alloc ?_ _)) (whole_ _) u1 u2 (szH4 _ _ _ _ _ _ _ _ _ _ _ _ _ _ _ _ _ _) ?_)
  refine (HS.out _).mono ?_
  rintro e w1 ⟨bs0, m0, rfl, rfl⟩
  replace hb := hb.later (below_plus _ bs0 m0)
  replace be := belowP be bs0 m0
  clear y15 y1 fr zb
  generalize plus W bs0 m0 = V at *
  have y1 : V.cell? ⟨w.heap.size, 1, none⟩ = some (.int .i64 l0) := hb.cell 1
  have fr := hb.frozen 1
  have zb := hb.lt
  go_upto_region 2 with (fail)
  replace hb : Bk (V.setCell ⟨w.heap.size, 1, none⟩ (.int .i64 (L : Int))) w.heap.size 140 (h4C ts (L : Int) id st mo (fo : Int) tl pr sm false 0 sl false 0 dl A n k) := hb.set_ 1 _
  replace be := be.setCell (p := ⟨w.heap.size, 1, none⟩) (Nat.le_refl _) (.int .i64 (L : Int))
  clear y1 fr zb 
  generalize V.setCell ⟨w.heap.size, 1, none⟩ (.int .i64 (L : Int)) = W2 at *
  have y1 : W2.cell? ⟨w.heap.size, 1, none⟩ = some (.int .i64 (L : Int)) := hb.cell 1
  have zb := hb.lt
  go_wp2_with (refine at_op (.load 140 (.tmp 2)) rfl ?_; refine wpList_ldA (t := 140) 140 (.tmp 2) rfl rfl (h4C ts (L : Int) id st mo (fo : Int) tl pr sm false 0 sl false 0 dl A n k) rfl (by with_reducible repeat (first | exact hb | refine Bk.later ?_ (below_plus _ _ _) | refine Bk.alloc ?_ _)) (whole_ _) u1 u2 (szH4 _ _ _ _ _ _ _ _ _ _ _ _ _ _ _ _ _ _) ?_)
  refine (HR.out _).mono ?_
  rintro e w1 ⟨bs1, m1, rfl, rfl⟩
  go_wp2_with (refine at_op (.load 140 (.tmp 2)) rfl ?_; refine wpList_ldA (t := 140) 140 (.tmp 2) rfl rfl (h4C ts (L : Int) id st mo (fo : Int) tl pr sm false 0 sl false 0 dl A n k) rfl (by with_reducible repeat (first | exact hb | refine Bk.later ?_ (below_plus _ _ _) | refine Bk.alloc ?_ _)) (whole_ _) u1 u2 (szH4 _ _ _ _ _ _ _ _ _ _ _ _ _ _ _ _ _ _) ?_)
  refine (HB.out _ (hr.later (by with_reducible repeat (first | exact be | refine belowP ?_ _ _)))).mono ?_
  rintro e w1 ⟨A3, n3, c3, bs2, m2, rfl, rfl, ho3⟩
  have l3 : n3 ≤ 100 := by rw [← ho3.1]; omega
  go_wp2_with (at_builtin; refine wpList_appP (l2 := load) _ bt rfl (.tmp 19) (.tmp 20) rfl (by exact below_plus _ bs2 m2) rfl ho3 rfl (h2.later (by with_reducible repeat (first | exact be | refine belowP ?_ _ _))) (by omega) ?_; intro A4 n4 k4 bs4 m4 ho4 hg4)
  go_ret2
  exact RetBE.mk ho4.rb (by with_reducible repeat (first | exact be | refine belowP ?_ _ _))
set_option maxHeartbeats 4000000 in
set_option maxRecDepth 100000 in
theorem packet4_long (ts : Nat) (l0 : Int) (id : Nat) (st mo : Bool) (fo : Int) (tl pr sm : Nat) (s6 : Bool) (sh sl : Nat) (d6 : Bool) (dh dl : Nat) (A : Option Addr) (n k : Nat) (A2 : Option Addr) (m c2 : Nat) (w : World) (hn : n ≤ 1000000) (hm : m ≤ 1000000) (hlong : 65535 < 20 + n + m) : Calls Try.prog 48 #[.agg (h4C ts l0 id st mo fo tl pr sm s6 sh sl d6 dh dl A n k).toArray, .slice A2 m c2] w (RetBE w [] 30) := by
  obtain ⟨du, u1, u2⟩ := rowH4
  obtain ⟨z, hz0⟩ : ∃ z : Nat, z = 20 + n := ⟨_, rfl⟩
  have HS := Lib.hid (fun w => size4 ts l0 id st mo fo tl pr sm s6 sh sl d6 dh dl A n k w (by omega))
  rw [← hz0] at HS
  obtain ⟨L, hL⟩ : ∃ L : Nat, L = z + m := ⟨_, rfl⟩
  have a1 : IntKind.i64.wrap ((z : Int) + (m : Int)) = (L : Int) := by rw [IntWalk.i64_in _ (by omega)]; omega
  have a2 : IntKind.i64.wrap (20 + (n : Int)) = (z : Int) := by rw [IntWalk.i64_in _ (by omega)]; omega
  have a3 : decide (65535 < (L : Int)) = true := by simp only [decide_eq_true_eq]; omega
  have a4 : decide (65535 < L) = true := by simp only [decide_eq_true_eq]; omega
  have hb : Bk (w.alloc (.cells (h4C ts l0 id st mo fo tl pr sm s6 sh sl d6 dh dl A n k).toArray 140)) w.heap.size 140 (h4C ts l0 id st mo fo tl pr sm s6 sh sl d6 dh dl A n k) := Bk.new w 140 (h4C ts l0 id st mo fo tl pr sm s6 sh sl d6 dh dl A n k).toArray
  have be : Below w.heap.size w (w.alloc (.cells (h4C ts l0 id st mo fo tl pr sm s6 sh sl d6 dh dl A n k).toArray 140)) := Below.allocS (Below.refl _ _) _
  clear hz0 hL
  go_enter Try.func48, Try.ntmps48
  go_upto_region 1 with (fail)
  generalize w.alloc (.cells (h4C ts l0 id st mo fo tl pr sm s6 sh sl d6 dh dl A n k).toArray 140) = W at *
  have y15 : W.cell? ⟨w.heap.size, 15, none⟩ = some (.slice A n k) := hb.cell 15
  have y1 : W.cell? ⟨w.heap.size, 1, none⟩ = some (.int .i64 l0) := hb.cell 1
  have fr := hb.frozen 1
  have zb := hb.lt
  go_wp2_with (refine at_op (.load 140 (.tmp 2)) rfl ?_; refine wpList_ldA (t := 140) 140 (.tmp 2) rfl rfl (h4C ts l0 id st mo fo tl pr sm s6 sh sl d6 dh dl A n k) rfl (by with_reducible repeat (first | exact hb | refine Bk.later ?_ (below_plus _ _ _) | refine Bk.alloc ?_ _)) (whole_ _) u1 u2 (szH4 _ _ _ _ _ _ _ _ _ _ _ _ _ _ _ _ _ _) ?_)
  refine (HS.out _).mono ?_
  rintro e w1 ⟨bs0, m0, rfl, rfl⟩
  replace hb := hb.later (below_plus _ bs0 m0)
  replace be := belowP be bs0 m0
  clear y15 y1 fr zb
  generalize plus W bs0 m0 = V at *
  have y1 : V.cell? ⟨w.heap.size, 1, none⟩ = some (.int .i64 l0) := hb.cell 1
  have fr := hb.frozen 1
  have zb := hb.lt
  go_upto_region 2 with (fail)
  replace hb : Bk (V.setCell ⟨w.heap.size, 1, none⟩ (.int .i64 (L : Int))) w.heap.size 140 (h4C ts (L : Int) id st mo fo tl pr sm s6 sh sl d6 dh dl A n k) := hb.set_ 1 _
  replace be := be.setCell (p := ⟨w.heap.size, 1, none⟩) (Nat.le_refl _) (.int .i64 (L : Int))
  clear y1 fr zb 
  generalize V.setCell ⟨w.heap.size, 1, none⟩ (.int .i64 (L : Int)) = W2 at *
  have y1 : W2.cell? ⟨w.heap.size, 1, none⟩ = some (.int .i64 (L : Int)) := hb.cell 1
  have zb := hb.lt
  go_wp2
  go_ret2
  exact RetBE.mk Rb.nil_ be
set_option maxHeartbeats 4000000 in
set_option maxRecDepth 100000 in
theorem packet4_arg (ts : Nat) (l0 : Int) (id : Nat) (st mo : Bool) (fo : Int) (tl pr sm : Nat) (s6 : Bool) (sh sl : Nat) (d6 : Bool) (dh dl : Nat) (A : Option Addr) (n k : Nat) (A2 : Option Addr) (m c2 : Nat) (w : World) (hn : n ≤ 1000000) (hf : -9223372036854775808 ≤ fo ∧ fo ≤ 9223372036854775807) (k1 : sh < 18446744073709551616) (k2 : sl < 18446744073709551616) (k3 : dh < 18446744073709551616) (k4 : dl < 18446744073709551616) (hshort : 20 + n + m ≤ 65535) (hno : r4 n ((20 + n + m : Nat) : Int) fo s6 sh sl d6 dh dl = false) : Calls Try.prog 48 #[.agg (h4C ts l0 id st mo fo tl pr sm s6 sh sl d6 dh dl A n k).toArray, .slice A2 m c2] w (RetBE w [] 1) := by
  obtain ⟨du, u1, u2⟩ := rowH4
  obtain ⟨z, hz0⟩ : ∃ z : Nat, z = 20 + n := ⟨_, rfl⟩
  have HS := Lib.hid (fun w => size4 ts l0 id st mo fo tl pr sm s6 sh sl d6 dh dl A n k w (by omega))
  rw [← hz0] at HS
  obtain ⟨L, hL⟩ : ∃ L : Nat, L = z + m := ⟨_, rfl⟩
  have a1 : IntKind.i64.wrap ((z : Int) + (m : Int)) = (L : Int) := by rw [IntWalk.i64_in _ (by omega)]; omega
  have a2 : IntKind.i64.wrap (20 + (n : Int)) = (z : Int) := by rw [IntWalk.i64_in _ (by omega)]; omega
  have a3 : decide (65535 < (L : Int)) = false := by simp only [decide_eq_false_iff_not]; omega
  have a4 : decide (65535 < L) = false := by simp only [decide_eq_false_iff_not]; omega
  have hb : Bk (w.alloc (.cells (h4C ts l0 id st mo fo tl pr sm s6 sh sl d6 dh dl A n k).toArray 140)) w.heap.size 140 (h4C ts l0 id st mo fo tl pr sm s6 sh sl d6 dh dl A n k) := Bk.new w 140 (h4C ts l0 id st mo fo tl pr sm s6 sh sl d6 dh dl A n k).toArray
  have be : Below w.heap.size w (w.alloc (.cells (h4C ts l0 id st mo fo tl pr sm s6 sh sl d6 dh dl A n k).toArray 140)) := Below.allocS (Below.refl _ _) _
  have HR := Lib.hid (fun w => right4 ts (L : Int) id st mo fo tl pr sm s6 sh sl d6 dh dl A n k w hn (by omega) hf k1 k2 k3 k4)
  rw [show L = 20 + n + m from by omega, hno, show 20 + n + m = L from by omega] at HR
  clear hz0 hL hno
  go_enter Try.func48, Try.ntmps48
  go_upto_region 1 with (fail)
  generalize w.alloc (.cells (h4C ts l0 id st mo fo tl pr sm s6 sh sl d6 dh dl A n k).toArray 140) = W at *
  have y15 : W.cell? ⟨w.heap.size, 15, none⟩ = some (.slice A n k) := hb.cell 15
  have y1 : W.cell? ⟨w.heap.size, 1, none⟩ = some (.int .i64 l0) := hb.cell 1
  have fr := hb.frozen 1
  have zb := hb.lt
  go_wp2_with (refine at_op (.load 140 (.tmp 2)) rfl ?_; refine wpList_ldA (t := 140) 140 (.tmp 2) rfl rfl (h4C ts l0 id st mo fo tl pr sm s6 sh sl d6 dh dl A n k) rfl (by with_reducible repeat (first | exact hb | refine Bk.later ?_ (below_plus _ _ _) | refine Bk.alloc ?_ _)) (whole_ _) u1 u2 (szH4 _ _ _ _ _ _ _ _ _ _ _ _ _ _ _ _ _ _) ?_)
  refine (HS.out _).mono ?_
  rintro e w1 ⟨bs0, m0, rfl, rfl⟩
  replace hb := hb.later (below_plus _ bs0 m0)
  replace be := belowP be bs0 m0
  clear y15 y1 fr zb
  generalize plus W bs0 m0 = V at *
  have y1 : V.cell? ⟨w.heap.size, 1, none⟩ = some (.int .i64 l0) := hb.cell 1
  have fr := hb.frozen 1
  have zb := hb.lt
  go_upto_region 2 with (fail)
  replace hb : Bk (V.setCell ⟨w.heap.size, 1, none⟩ (.int .i64 (L : Int))) w.heap.size 140 (h4C ts (L : Int) id st mo fo tl pr sm s6 sh sl d6 dh dl A n k) := hb.set_ 1 _
  replace be := be.setCell (p := ⟨w.heap.size, 1, none⟩) (Nat.le_refl _) (.int .i64 (L : Int))
  clear y1 fr zb 
  generalize V.setCell ⟨w.heap.size, 1, none⟩ (.int .i64 (L : Int)) = W2 at *
  have y1 : W2.cell? ⟨w.heap.size, 1, none⟩ = some (.int .i64 (L : Int)) := hb.cell 1
  have zb := hb.lt
  go_wp2_with (refine at_op (.load 140 (.tmp 2)) rfl ?_; refine wpList_ldA (t := 140) 140 (.tmp 2) rfl rfl (h4C ts (L : Int) id st mo fo tl pr sm s6 sh sl d6 dh dl A n k) rfl (by with_reducible repeat (first | exact hb | refine Bk.later ?_ (below_plus _ _ _) | refine Bk.alloc ?_ _)) (whole_ _) u1 u2 (szH4 _ _ _ _ _ _ _ _ _ _ _ _ _ _ _ _ _ _) ?_)
  refine (HR.out _).mono ?_
  rintro e w1 ⟨bs1, m1, rfl, rfl⟩
  go_wp2
  go_ret2
  exact RetBE.mk Rb.nil_ (belowP be _ _)
set_option maxHeartbeats 4000000 in
set_option maxRecDepth 100000 in
theorem refPacket4_ok (ts : Nat) (l0 : Int) (id : Nat) (st mo : Bool) (fo tl pr sm sl dl : Nat) (A : Option Addr) (n k : Nat) (o : List UInt8) (A2 : Option Addr) (m c2 : Nat) (load : List UInt8) (w : World) (hr : Rb w A n k o) (h2 : Rb w A2 m c2 load) (b1 : ts < 256) (b2 : id < 65536) (b3 : tl < 256) (b4 : pr < 256) (b5 : sl < 4294967296) (b6 : dl < 4294967296) (d1 : n ≤ 40) (d2 : n % 4 = 0) (c4 : 20 + n + m ≤ 65535) (c5 : fo ≤ 8191) : Calls Try.prog 79 #[.agg (h4C ts l0 id st mo (fo : Int) tl pr sm false 0 sl false 0 dl A n k).toArray, .slice A2 m c2] w (RetBE w (ip4B ts (20 + n + m) id (pl4 st mo fo) tl pr (ip4K ts (20 + n + m) id (pl4 st mo fo) tl pr sl dl o) sl dl o ++ load) 0) := by
  obtain ⟨du, u1, u2⟩ := rowR4
  obtain ⟨z, hz0⟩ : ∃ z : Nat, z = 20 + n := ⟨_, rfl⟩
  obtain ⟨L, hL⟩ : ∃ L : Nat, L = z + m := ⟨_, rfl⟩
  have a1 : IntKind.i64.wrap ((z : Int) + (m : Int)) = (L : Int) := by rw [IntWalk.i64_in _ (by omega)]; omega
  have a2 : IntKind.i64.wrap (20 + (n : Int)) = (z : Int) := by rw [IntWalk.i64_in _ (by omega)]; omega
  have a3 : decide (65535 < (L : Int)) = false := by simp only [decide_eq_false_iff_not]; omega
  have a4 : decide (65535 < L) = false := by simp only [decide_eq_false_iff_not]; omega
  have hb : Bk (w.alloc (.cells (h4C ts l0 id st mo (fo : Int) tl pr sm false 0 sl false 0 dl A n k).toArray 184)) w.heap.size 184 (h4C ts l0 id st mo (fo : Int) tl pr sm false 0 sl false 0 dl A n k) := Bk.new w 184 (h4C ts l0 id st mo (fo : Int) tl pr sm false 0 sl false 0 dl A n k).toArray
  have be : Below w.heap.size w (w.alloc (.cells (h4C ts l0 id st mo (fo : Int) tl pr sm false 0 sl false 0 dl A n k).toArray 184)) := Below.allocS (Below.refl _ _) _
  have HR := Lib.hid (fun w => refRight4 ts (L : Int) id st mo (fo : Int) tl pr sm false 0 sl false 0 dl A n k w (by omega) (by omega) (by omega) (by omega) (by omega) (by omega) (by omega))
  rw [r4_yes n L fo sl dl d1 d2 (by omega) (by omega) c5 b5 b6] at HR
  have HB := Lib.hid (fun w (hr : Rb w A n k o) => refIp4Bytes_yes ts L id st mo fo tl pr sm sl dl A n k o w hr b1 b2 b3 b4 b5 b6 d1 d2 (by omega) (by omega) c5)
  have hlen := ip4B_length ts L id (pl4 st mo fo) tl pr (ip4K ts L id (pl4 st mo fo) tl pr sl dl o) sl dl o
  rw [hr.1] at hlen
  rw [show 20 + n + m = L from by omega]
  generalize ip4B ts L id (pl4 st mo fo) tl pr (ip4K ts L id (pl4 st mo fo) tl pr sl dl o) sl dl o = B at *
  clear hz0 hL
  go_enter Try.func79, Try.ntmps79
  go_upto_region 1 with (fail)
  generalize w.alloc (.cells (h4C ts l0 id st mo (fo : Int) tl pr sm false 0 sl false 0 dl A n k).toArray 184) = W at *
  have y15 : W.cell? ⟨w.heap.size, 15, none⟩ = some (.slice A n k) := hb.cell 15
  have y1 : W.cell? ⟨w.heap.size, 1, none⟩ = some (.int .i64 l0) := hb.cell 1
  have fr := hb.frozen 1
  have zb := hb.lt
  have hV : W = W := rfl
  go_upto_region 2 with (fail)
  replace hb : Bk (W.setCell ⟨w.heap.size, 1, none⟩ (.int .i64 (L : Int))) w.heap.size 184 (h4C ts (L : Int) id st mo (fo : Int) tl pr sm false 0 sl false 0 dl A n k) := hb.set_ 1 _
  replace be := be.setCell (p := ⟨w.heap.size, 1, none⟩) (Nat.le_refl _) (.int .i64 (L : Int))
  clear y1 fr zb y15 hV
  generalize W.setCell ⟨w.heap.size, 1, none⟩ (.int .i64 (L : Int)) = W2 at *
  have y1 : W2.cell? ⟨w.heap.size, 1, none⟩ = some (.int .i64 (L : Int)) := hb.cell 1
  have zb := hb.lt
  go_wp2_with (refine at_op (.load 184 (.tmp 2)) rfl ?_; refine wpList_ldA (t := 184) 184 (.tmp 2) rfl rfl (h4C ts (L : Int) id st mo (fo : Int) tl pr sm false 0 sl false 0 dl A n k) rfl (by with_reducible repeat (first | exact hb | refine Bk.later ?_ (below_plus _ _ _) | refine Bk.alloc ?_ _)) (whole_ _) u1 u2 (szR4 _ _ _ _ _ _ _ _ _ _ _ _ _ _ _ _ _ _) ?_)
  refine (HR.out _).mono ?_
  rintro e w1 ⟨bs1, m1, rfl, rfl⟩
  go_wp2_with (refine at_op (.load 184 (.tmp 2)) rfl ?_; refine wpList_ldA (t := 184) 184 (.tmp 2) rfl rfl (h4C ts (L : Int) id st mo (fo : Int) tl pr sm false 0 sl false 0 dl A n k) rfl (by with_reducible repeat (first | exact hb | refine Bk.later ?_ (below_plus _ _ _) | refine Bk.alloc ?_ _)) (whole_ _) u1 u2 (szR4 _ _ _ _ _ _ _ _ _ _ _ _ _ _ _ _ _ _) ?_)
  refine (HB.out _ (hr.later (by with_reducible repeat (first | exact be | refine belowP ?_ _ _)))).mono ?_
  rintro e w1 ⟨A3, n3, c3, bs2, m2, rfl, rfl, ho3⟩
  have l3 : n3 ≤ 100 := by rw [← ho3.1]; omega
  go_wp2_with (at_builtin; refine wpList_appP (l2 := load) _ bt rfl (.tmp 21) (.tmp 22) rfl (by exact below_plus _ bs2 m2) rfl ho3 rfl (h2.later (by with_reducible repeat (first | exact be | refine belowP ?_ _ _))) (by omega) ?_; intro A4 n4 k4 bs4 m4 ho4 hg4)
  go_ret2
  exact RetBE.mk ho4.rb (by with_reducible repeat (first | exact be | refine belowP ?_ _ _))
set_option maxHeartbeats 4000000 in
set_option maxRecDepth 100000 in
theorem refPacket4_long (ts : Nat) (l0 : Int) (id : Nat) (st mo : Bool) (fo : Int) (tl pr sm : Nat) (s6 : Bool) (sh sl : Nat) (d6 : Bool) (dh dl : Nat) (A : Option Addr) (n k : Nat) (A2 : Option Addr) (m c2 : Nat) (w : World) (hn : n ≤ 1000000) (hm : m ≤ 1000000) (hlong : 65535 < 20 + n + m) : Calls Try.prog 79 #[.agg (h4C ts l0 id st mo fo tl pr sm s6 sh sl d6 dh dl A n k).toArray, .slice A2 m c2] w (RetBE w [] 30) := by
  obtain ⟨du, u1, u2⟩ := rowR4
  obtain ⟨z, hz0⟩ : ∃ z : Nat, z = 20 + n := ⟨_, rfl⟩
  obtain ⟨L, hL⟩ : ∃ L : Nat, L = z + m := ⟨_, rfl⟩
  have a1 : IntKind.i64.wrap ((z : Int) + (m : Int)) = (L : Int) := by rw [IntWalk.i64_in _ (by omega)]; omega
  have a2 : IntKind.i64.wrap (20 + (n : Int)) = (z : Int) := by rw [IntWalk.i64_in _ (by omega)]; omega
  have a3 : decide (65535 < (L : Int)) = true := by simp only [decide_eq_true_eq]; omega
  have a4 : decide (65535 < L) = true := by simp only [decide_eq_true_eq]; omega
  have hb : Bk (w.alloc (.cells (h4C ts l0 id st mo fo tl pr sm s6 sh sl d6 dh dl A n k).toArray 184)) w.heap.size 184 (h4C ts l0 id st mo fo tl pr sm s6 sh sl d6 dh dl A n k) := Bk.new w 184 (h4C ts l0 id st mo fo tl pr sm s6 sh sl d6 dh dl A n k).toArray
  have be : Below w.heap.size w (w.alloc (.cells (h4C ts l0 id st mo fo tl pr sm s6 sh sl d6 dh dl A n k).toArray 184)) := Below.allocS (Below.refl _ _) _
  clear hz0 hL
  go_enter Try.func79, Try.ntmps79
  go_upto_region 1 with (fail)
  generalize w.alloc (.cells (h4C ts l0 id st mo fo tl pr sm s6 sh sl d6 dh dl A n k).toArray 184) = W at *
  have y15 : W.cell? ⟨w.heap.size, 15, none⟩ = some (.slice A n k) := hb.cell 15
  have y1 : W.cell? ⟨w.heap.size, 1, none⟩ = some (.int .i64 l0) := hb.cell 1
  have fr := hb.frozen 1
  have zb := hb.lt
  have hV : W = W := rfl
  go_upto_region 2 with (fail)
  replace hb : Bk (W.setCell ⟨w.heap.size, 1, none⟩ (.int .i64 (L : Int))) w.heap.size 184 (h4C ts (L : Int) id st mo fo tl pr sm s6 sh sl d6 dh dl A n k) := hb.set_ 1 _
  replace be := be.setCell (p := ⟨w.heap.size, 1, none⟩) (Nat.le_refl _) (.int .i64 (L : Int))
  clear y1 fr zb y15 hV
  generalize W.setCell ⟨w.heap.size, 1, none⟩ (.int .i64 (L : Int)) = W2 at *
  have y1 : W2.cell? ⟨w.heap.size, 1, none⟩ = some (.int .i64 (L : Int)) := hb.cell 1
  have zb := hb.lt
  go_wp2
  go_ret2
  exact RetBE.mk Rb.nil_ be
set_option maxHeartbeats 4000000 in
set_option maxRecDepth 100000 in
theorem refPacket4_arg (ts : Nat) (l0 : Int) (id : Nat) (st mo : Bool) (fo : Int) (tl pr sm : Nat) (s6 : Bool) (sh sl : Nat) (d6 : Bool) (dh dl : Nat) (A : Option Addr) (n k : Nat) (A2 : Option Addr) (m c2 : Nat) (w : World) (hn : n ≤ 1000000) (hf : -9223372036854775808 ≤ fo ∧ fo ≤ 9223372036854775807) (k1 : sh < 18446744073709551616) (k2 : sl < 18446744073709551616) (k3 : dh < 18446744073709551616) (k4 : dl < 18446744073709551616) (hshort : 20 + n + m ≤ 65535) (hno : r4 n ((20 + n + m : Nat) : Int) fo s6 sh sl d6 dh dl = false) : Calls Try.prog 79 #[.agg (h4C ts l0 id st mo fo tl pr sm s6 sh sl d6 dh dl A n k).toArray, .slice A2 m c2] w (RetBE w [] 1) := by
  obtain ⟨du, u1, u2⟩ := rowR4
  obtain ⟨z, hz0⟩ : ∃ z : Nat, z = 20 + n := ⟨_, rfl⟩
  obtain ⟨L, hL⟩ : ∃ L : Nat, L = z + m := ⟨_, rfl⟩
  have a1 : IntKind.i64.wrap ((z : Int) + (m : Int)) = (L : Int) := by rw [IntWalk.i64_in _ (by omega)]; omega
  have a2 : IntKind.i64.wrap (20 + (n : Int)) = (z : Int) := by rw [IntWalk.i64_in _ (by omega)]; omega
  have a3 : decide (65535 < (L : Int)) = false := by simp only [decide_eq_false_iff_not]; omega
  have a4 : decide (65535 < L) = false := by simp only [decide_eq_false_iff_not]; omega
  have hb : Bk (w.alloc (.cells (h4C ts l0 id st mo fo tl pr sm s6 sh sl d6 dh dl A n k).toArray 184)) w.heap.size 184 (h4C ts l0 id st mo fo tl pr sm s6 sh sl d6 dh dl A n k) := Bk.new w 184 (h4C ts l0 id st mo fo tl pr sm s6 sh sl d6 dh dl A n k).toArray
  have be : Below w.heap.size w (w.alloc (.cells (h4C ts l0 id st mo fo tl pr sm s6 sh sl d6 dh dl A n k).toArray 184)) := Below.allocS (Below.refl _ _) _
  have HR := Lib.hid (fun w => refRight4 ts (L : Int) id st mo fo tl pr sm s6 sh sl d6 dh dl A n k w hn (by omega) hf k1 k2 k3 k4)
  rw [show L = 20 + n + m from by omega, hno, show 20 + n + m = L from by omega] at HR
  clear hz0 hL hno
  go_enter Try.func79, Try.ntmps79
  go_upto_region 1 with (fail)
  generalize w.alloc (.cells (h4C ts l0 id st mo fo tl pr sm s6 sh sl d6 dh dl A n k).toArray 184) = W at *
  have y15 : W.cell? ⟨w.heap.size, 15, none⟩ = some (.slice A n k) := hb.cell 15
  have y1 : W.cell? ⟨w.heap.size, 1, none⟩ = some (.int .i64 l0) := hb.cell 1
  have fr := hb.frozen 1
  have zb := hb.lt
  have hV : W = W := rfl
  go_upto_region 2 with (fail)
  replace hb : Bk (W.setCell ⟨w.heap.size, 1, none⟩ (.int .i64 (L : Int))) w.heap.size 184 (h4C ts (L : Int) id st mo fo tl pr sm s6 sh sl d6 dh dl A n k) := hb.set_ 1 _
  replace be := be.setCell (p := ⟨w.heap.size, 1, none⟩) (Nat.le_refl _) (.int .i64 (L : Int))
  clear y1 fr zb y15 hV
  generalize W.setCell ⟨w.heap.size, 1, none⟩ (.int .i64 (L : Int)) = W2 at *
  have y1 : W2.cell? ⟨w.heap.size, 1, none⟩ = some (.int .i64 (L : Int)) := hb.cell 1
  have zb := hb.lt
  go_wp2_with (refine at_op (.load 184 (.tmp 2)) rfl ?_; refine wpList_ldA (t := 184) 184 (.tmp 2) rfl rfl (h4C ts (L : Int) id st mo fo tl pr sm s6 sh sl d6 dh dl A n k) rfl (by with_reducible repeat (first | exact hb | refine Bk.later ?_ (below_plus _ _ _) | refine Bk.alloc ?_ _)) (whole_ _) u1 u2 (szR4 _ _ _ _ _ _ _ _ _ _ _ _ _ _ _ _ _ _) ?_)
  refine (HR.out _).mono ?_
  rintro e w1 ⟨bs1, m1, rfl, rfl⟩
  go_wp2
  go_ret2
  exact RetBE.mk Rb.nil_ (belowP be _ _)
end Go.Proofs.Ytfmkndemkpecpaa
