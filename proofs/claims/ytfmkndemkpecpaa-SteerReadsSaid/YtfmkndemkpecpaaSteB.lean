/- steer.open4, steer.open6 (chapter 29). -/
import Derived.Test.YtfmkndemkpecpaaSteA
namespace Go.Proofs.Ytfmkndemkpecpaa
open Go.RowKit
set_option linter.unusedVariables false
set_option linter.unusedSimpArgs false
attribute [local go_sem ↓] sliced_cut
attribute [local go_sem] cutA_zero

theorem and16383 (x : Nat) (h : x < 65536) : bits .and .u16 (x : Int) 16383 = ((x % 16384 : Nat) : Int) := by
  have := u16_and_nat x 16383 h (by decide)
  rw [show (16383 : Nat) = 2 ^ 14 - 1 from rfl, Nat.and_two_pow_sub_one_eq_mod] at this
  exact this
set_option maxHeartbeats 4000000 in
set_option maxRecDepth 100000 in
theorem open4_0 (A : Option Addr) (n c : Nat) (l : List UInt8) (w : World) (h : Rb w A n c l) (hm : n ≤ 1000000) (hn : n < 20) : Calls Try.prog 49 #[.slice A n c] w (RetV w (.tuple #[.agg (flC false 0 0 false 0 0 0 0 0).toArray, .slice none 0 0, .bool false])) := by
  have a1 : decide ((n : Int) < 20) = true := by simp only [decide_eq_true_eq]; omega
  have a2 : decide (n < 20) = true := by simp only [decide_eq_true_eq]; omega
  obtain ⟨du, u1, u2⟩ := rowFl
  have b2 : Bk (w.alloc (.cells #[.bool false, .int .u64 0, .int .u64 0, .bool false, .int .u64 0, .int .u64 0, .int .u16 0, .int .u16 0, .int .u8 0] 29)) w.heap.size 29 (flC false 0 0 false 0 0 0 0 0) := Bk.new w 29 #[.bool false, .int .u64 0, .int .u64 0, .bool false, .int .u64 0, .int .u64 0, .int .u16 0, .int .u16 0, .int .u8 0]
  have be : Below w.heap.size w (w.alloc (.cells #[.bool false, .int .u64 0, .int .u64 0, .bool false, .int .u64 0, .int .u64 0, .int .u16 0, .int .u16 0, .int .u8 0] 29)) := Below.allocS (Below.refl _ _) _
  clear hn hm
  go_enter Try.func49, Try.ntmps49
  go_upto_region 1 with (fail)
  generalize w.alloc (.cells #[.bool false, .int .u64 0, .int .u64 0, .bool false, .int .u64 0, .int .u64 0, .int .u16 0, .int .u16 0, .int .u8 0] 29) = V at *
  go_wp2_with (refine at_op (.store 29 (.tmp 2) (.tmp 16)) rfl ?_; refine wpList_stA (t := 29) 29 (.tmp 2) (.tmp 16) rfl rfl (flC false 0 0 false 0 0 0 0 0) (flC false 0 0 false 0 0 0 0 0) rfl (flC_one _ _ _ _ _ _ _ _ _) rfl rfl b2 (szFl _ _ _ _ _ _ _ _ _) ?_; intro W9 h9 g9)
  refine bodyPost_agg3 Try.results49 rfl rfl rfl h9.range u1 u2 (szFl _ _ _ _ _ _ _ _ _) rfl (RetV.mk ?_)
  exact below_grown be g9 (by omega)
set_option maxHeartbeats 4000000 in
set_option maxRecDepth 100000 in
theorem open4_1 (A : Option Addr) (n c : Nat) (l : List UInt8) (w : World) (h : Rb w A n c l) (hm : n ≤ 1000000) (x : Nat) (hx : num ((l.drop 0).take 1) = x) (hn : 20 ≤ n) (hv : x / 16 ≠ 4) : Calls Try.prog 49 #[.slice A n c] w (RetV w (.tuple #[.agg (flC false 0 0 false 0 0 0 0 0).toArray, .slice none 0 0, .bool false])) := by
  have hc := h.2.1
  have hl := h.1
  obtain ⟨b, off, rfl, hbl, hcell⟩ := h.2.2.at_ (by rw [bcs_length, h.1]; omega)
  have y0 := num_cell hcell 0 (by omega)
  rw [hx, Nat.add_zero] at y0
  have hx8 : x < 256 := by rw [← hx]; exact num_lt' l 0 1 256 (by decide)
  have a1 : decide ((n : Int) < 20) = false := by simp only [decide_eq_false_iff_not]; omega
  have a2 : decide (n < 20) = false := by simp only [decide_eq_false_iff_not]; omega
  have i0 : (0 : Int) < (n : Int) := by omega
  have i1 : 0 < n := by omega
  obtain ⟨q, hq⟩ : ∃ q : Nat, q = x / 16 := ⟨_, rfl⟩
  have e1 : (x : Int) / 16 = (q : Int) := by omega
  have n1 : ((q : Int) != 4) = true := by rw [bne_iff_ne]; omega
  obtain ⟨du, u1, u2⟩ := rowFl
  have b2 : Bk (w.alloc (.cells #[.bool false, .int .u64 0, .int .u64 0, .bool false, .int .u64 0, .int .u64 0, .int .u16 0, .int .u16 0, .int .u8 0] 29)) w.heap.size 29 (flC false 0 0 false 0 0 0 0 0) := Bk.new w 29 #[.bool false, .int .u64 0, .int .u64 0, .bool false, .int .u64 0, .int .u64 0, .int .u16 0, .int .u16 0, .int .u8 0]
  have be : Below w.heap.size w (w.alloc (.cells #[.bool false, .int .u64 0, .int .u64 0, .bool false, .int .u64 0, .int .u64 0, .int .u16 0, .int .u16 0, .int .u8 0] 29)) := Below.allocS (Below.refl _ _) _
  clear hv hx hn hm hcell hq
  go_enter Try.func49, Try.ntmps49
  go_upto_region 1 with (fail)
  have yV := be.cell (p := ⟨b, off, none⟩) hbl
  rw [y0] at yV
  have zV := be.size
  generalize w.alloc (.cells #[.bool false, .int .u64 0, .int .u64 0, .bool false, .int .u64 0, .int .u64 0, .int .u16 0, .int .u16 0, .int .u8 0] 29) = V at *
  have zb : b < V.heap.size := by omega
  go_wp2_with (refine at_op (.store 29 (.tmp 2) (.tmp 16)) rfl ?_; refine wpList_stA (t := 29) 29 (.tmp 2) (.tmp 16) rfl rfl (flC false 0 0 false 0 0 0 0 0) (flC false 0 0 false 0 0 0 0 0) rfl (flC_one _ _ _ _ _ _ _ _ _) rfl rfl b2 (szFl _ _ _ _ _ _ _ _ _) ?_; intro W9 h9 g9)
  refine bodyPost_agg3 Try.results49 rfl rfl rfl h9.range u1 u2 (szFl _ _ _ _ _ _ _ _ _) rfl (RetV.mk ?_)
  exact below_grown be g9 (by omega)
set_option maxHeartbeats 4000000 in
set_option maxRecDepth 100000 in
theorem open6_0 (A : Option Addr) (n c : Nat) (l : List UInt8) (w : World) (h : Rb w A n c l) (hm : n ≤ 1000000) (hn : n < 48) : Calls Try.prog 50 #[.slice A n c] w (RetV w (.tuple #[.agg (flC false 0 0 false 0 0 0 0 0).toArray, .slice none 0 0, .bool false])) := by
  have a1 : decide ((n : Int) < 48) = true := by simp only [decide_eq_true_eq]; omega
  have a2 : decide (n < 48) = true := by simp only [decide_eq_true_eq]; omega
  obtain ⟨du, u1, u2⟩ := rowFl
  have b2 : Bk (w.alloc (.cells #[.bool false, .int .u64 0, .int .u64 0, .bool false, .int .u64 0, .int .u64 0, .int .u16 0, .int .u16 0, .int .u8 0] 29)) w.heap.size 29 (flC false 0 0 false 0 0 0 0 0) := Bk.new w 29 #[.bool false, .int .u64 0, .int .u64 0, .bool false, .int .u64 0, .int .u64 0, .int .u16 0, .int .u16 0, .int .u8 0]
  have be : Below w.heap.size w (w.alloc (.cells #[.bool false, .int .u64 0, .int .u64 0, .bool false, .int .u64 0, .int .u64 0, .int .u16 0, .int .u16 0, .int .u8 0] 29)) := Below.allocS (Below.refl _ _) _
  clear hn hm
  go_enter Try.func50, Try.ntmps50
  go_upto_region 1 with (fail)
  generalize w.alloc (.cells #[.bool false, .int .u64 0, .int .u64 0, .bool false, .int .u64 0, .int .u64 0, .int .u16 0, .int .u16 0, .int .u8 0] 29) = V at *
  go_wp2_with (refine at_op (.store 29 (.tmp 2) (.tmp 15)) rfl ?_; refine wpList_stA (t := 29) 29 (.tmp 2) (.tmp 15) rfl rfl (flC false 0 0 false 0 0 0 0 0) (flC false 0 0 false 0 0 0 0 0) rfl (flC_one _ _ _ _ _ _ _ _ _) rfl rfl b2 (szFl _ _ _ _ _ _ _ _ _) ?_; intro W9 h9 g9)
  refine bodyPost_agg3 Try.results50 rfl rfl rfl h9.range u1 u2 (szFl _ _ _ _ _ _ _ _ _) rfl (RetV.mk ?_)
  exact below_grown be g9 (by omega)
set_option maxHeartbeats 4000000 in
set_option maxRecDepth 100000 in
theorem open6_1 (A : Option Addr) (n c : Nat) (l : List UInt8) (w : World) (h : Rb w A n c l) (hm : n ≤ 1000000) (x : Nat) (hx : num ((l.drop 0).take 1) = x) (hn : 48 ≤ n) (hv : x / 16 ≠ 6) : Calls Try.prog 50 #[.slice A n c] w (RetV w (.tuple #[.agg (flC false 0 0 false 0 0 0 0 0).toArray, .slice none 0 0, .bool false])) := by
  have hc := h.2.1
  have hl := h.1
  obtain ⟨b, off, rfl, hbl, hcell⟩ := h.2.2.at_ (by rw [bcs_length, h.1]; omega)
  have y0 := num_cell hcell 0 (by omega)
  rw [hx, Nat.add_zero] at y0
  have hx8 : x < 256 := by rw [← hx]; exact num_lt' l 0 1 256 (by decide)
  have a1 : decide ((n : Int) < 48) = false := by simp only [decide_eq_false_iff_not]; omega
  have a2 : decide (n < 48) = false := by simp only [decide_eq_false_iff_not]; omega
  have i0 : (0 : Int) < (n : Int) := by omega
  have i1 : 0 < n := by omega
  obtain ⟨q, hq⟩ : ∃ q : Nat, q = x / 16 := ⟨_, rfl⟩
  have e1 : (x : Int) / 16 = (q : Int) := by omega
  have n1 : ((q : Int) != 6) = true := by rw [bne_iff_ne]; omega
  obtain ⟨du, u1, u2⟩ := rowFl
  have b2 : Bk (w.alloc (.cells #[.bool false, .int .u64 0, .int .u64 0, .bool false, .int .u64 0, .int .u64 0, .int .u16 0, .int .u16 0, .int .u8 0] 29)) w.heap.size 29 (flC false 0 0 false 0 0 0 0 0) := Bk.new w 29 #[.bool false, .int .u64 0, .int .u64 0, .bool false, .int .u64 0, .int .u64 0, .int .u16 0, .int .u16 0, .int .u8 0]
  have be : Below w.heap.size w (w.alloc (.cells #[.bool false, .int .u64 0, .int .u64 0, .bool false, .int .u64 0, .int .u64 0, .int .u16 0, .int .u16 0, .int .u8 0] 29)) := Below.allocS (Below.refl _ _) _
  clear hv hx hn hm hcell hq
  go_enter Try.func50, Try.ntmps50
  go_upto_region 1 with (fail)
  have yV := be.cell (p := ⟨b, off, none⟩) hbl
  rw [y0] at yV
  have zV := be.size
  generalize w.alloc (.cells #[.bool false, .int .u64 0, .int .u64 0, .bool false, .int .u64 0, .int .u64 0, .int .u16 0, .int .u16 0, .int .u8 0] 29) = V at *
  have zb : b < V.heap.size := by omega
  go_wp2_with (refine at_op (.store 29 (.tmp 2) (.tmp 15)) rfl ?_; refine wpList_stA (t := 29) 29 (.tmp 2) (.tmp 15) rfl rfl (flC false 0 0 false 0 0 0 0 0) (flC false 0 0 false 0 0 0 0 0) rfl (flC_one _ _ _ _ _ _ _ _ _) rfl rfl b2 (szFl _ _ _ _ _ _ _ _ _) ?_; intro W9 h9 g9)
  refine bodyPost_agg3 Try.results50 rfl rfl rfl h9.range u1 u2 (szFl _ _ _ _ _ _ _ _ _) rfl (RetV.mk ?_)
  exact below_grown be g9 (by omega)
set_option maxHeartbeats 4000000 in
set_option maxRecDepth 100000 in
theorem open4_2 (A : Option Addr) (n c : Nat) (l : List UInt8) (w : World) (h : Rb w A n c l) (hm : n ≤ 1000000) (x : Nat) (hx : num ((l.drop 0).take 1) = x) (hn : 20 ≤ n) (hv : x / 16 = 4) (hs : 4 * (x % 16) < 20 ∨ n < 4 * (x % 16) + 8) : Calls Try.prog 49 #[.slice A n c] w (RetV w (.tuple #[.agg (flC false 0 0 false 0 0 0 0 0).toArray, .slice none 0 0, .bool false])) := by
  have hc := h.2.1
  have hl := h.1
  obtain ⟨b, off, rfl, hbl, hcell⟩ := h.2.2.at_ (by rw [bcs_length, h.1]; omega)
  have y0 := num_cell hcell 0 (by omega)
  rw [hx, Nat.add_zero] at y0
  have hx8 : x < 256 := by rw [← hx]; exact num_lt' l 0 1 256 (by decide)
  have a1 : decide ((n : Int) < 20) = false := by simp only [decide_eq_false_iff_not]; omega
  have a2 : decide (n < 20) = false := by simp only [decide_eq_false_iff_not]; omega
  have i0 : (0 : Int) < (n : Int) := by omega
  have i1 : 0 < n := by omega
  obtain ⟨q, hq⟩ : ∃ q : Nat, q = x / 16 := ⟨_, rfl⟩
  have e1 : (x : Int) / 16 = (q : Int) := by omega
  obtain rfl : q = 4 := by omega
  obtain ⟨m, hm0⟩ : ∃ m : Nat, x % 16 = m := ⟨_, rfl⟩
  have ea := u8_and15 x hx8
  rw [hm0] at ea
  obtain ⟨z, hz⟩ : ∃ z : Nat, z = 4 * m := ⟨_, rfl⟩
  have e2 : IntKind.i64.wrap (m : Int) = (m : Int) := IntWalk.i64_in _ (by omega)
  have e3 : IntKind.i64.wrap ((m : Int) * 4) = (z : Int) := by rw [IntWalk.i64_in _ (by omega)]; omega
  obtain ⟨z8, hz8⟩ : ∃ k : Nat, k = z + 8 := ⟨_, rfl⟩
  have e4 : IntKind.i64.wrap ((z : Int) + 8) = (z8 : Int) := by rw [IntWalk.i64_in _ (by omega)]; omega
  by_cases h5 : z < 20
  · have c1 : decide ((z : Int) < 20) = true := by simp only [decide_eq_true_eq]; omega
    have c2 : decide (z < 20) = true := by simp only [decide_eq_true_eq]; omega
    obtain ⟨du, u1, u2⟩ := rowFl
    have b2 : Bk (w.alloc (.cells #[.bool false, .int .u64 0, .int .u64 0, .bool false, .int .u64 0, .int .u64 0, .int .u16 0, .int .u16 0, .int .u8 0] 29)) w.heap.size 29 (flC false 0 0 false 0 0 0 0 0) := Bk.new w 29 #[.bool false, .int .u64 0, .int .u64 0, .bool false, .int .u64 0, .int .u64 0, .int .u16 0, .int .u16 0, .int .u8 0]
    have be : Below w.heap.size w (w.alloc (.cells #[.bool false, .int .u64 0, .int .u64 0, .bool false, .int .u64 0, .int .u64 0, .int .u16 0, .int .u16 0, .int .u8 0] 29)) := Below.allocS (Below.refl _ _) _
    clear hv hx hn hm hcell hs h5 hz hm0 hz8 hq
    go_enter Try.func49, Try.ntmps49
    go_upto_region 1 with (fail)
    have yV := be.cell (p := ⟨b, off, none⟩) hbl
    rw [y0] at yV
    have zV := be.size
    generalize w.alloc (.cells #[.bool false, .int .u64 0, .int .u64 0, .bool false, .int .u64 0, .int .u64 0, .int .u16 0, .int .u16 0, .int .u8 0] 29) = V at *
    have zb : b < V.heap.size := by omega
    go_wp2_with (refine at_op (.store 29 (.tmp 2) (.tmp 32)) rfl ?_; refine wpList_stA (t := 29) 29 (.tmp 2) (.tmp 32) rfl rfl (flC false 0 0 false 0 0 0 0 0) (flC false 0 0 false 0 0 0 0 0) rfl (flC_one _ _ _ _ _ _ _ _ _) rfl rfl b2 (szFl _ _ _ _ _ _ _ _ _) ?_; intro W9 h9 g9)
    refine bodyPost_agg3 Try.results49 rfl rfl rfl h9.range u1 u2 (szFl _ _ _ _ _ _ _ _ _) rfl (RetV.mk ?_)
    exact below_grown be g9 (by omega)
  · have c1 : decide ((z : Int) < 20) = false := by simp only [decide_eq_false_iff_not]; omega
    have c2 : decide (z < 20) = false := by simp only [decide_eq_false_iff_not]; omega
    have c3 : decide ((n : Int) < (z8 : Int)) = true := by simp only [decide_eq_true_eq]; omega
    have c4 : decide (n < z8) = true := by simp only [decide_eq_true_eq]; omega
    obtain ⟨du, u1, u2⟩ := rowFl
    have b2 : Bk (w.alloc (.cells #[.bool false, .int .u64 0, .int .u64 0, .bool false, .int .u64 0, .int .u64 0, .int .u16 0, .int .u16 0, .int .u8 0] 29)) w.heap.size 29 (flC false 0 0 false 0 0 0 0 0) := Bk.new w 29 #[.bool false, .int .u64 0, .int .u64 0, .bool false, .int .u64 0, .int .u64 0, .int .u16 0, .int .u16 0, .int .u8 0]
    have be : Below w.heap.size w (w.alloc (.cells #[.bool false, .int .u64 0, .int .u64 0, .bool false, .int .u64 0, .int .u64 0, .int .u16 0, .int .u16 0, .int .u8 0] 29)) := Below.allocS (Below.refl _ _) _
    clear hv hx hn hm hcell hs h5 hz hm0 hz8 hq
    go_enter Try.func49, Try.ntmps49
    go_upto_region 1 with (fail)
    have yV := be.cell (p := ⟨b, off, none⟩) hbl
    rw [y0] at yV
    have zV := be.size
    generalize w.alloc (.cells #[.bool false, .int .u64 0, .int .u64 0, .bool false, .int .u64 0, .int .u64 0, .int .u16 0, .int .u16 0, .int .u8 0] 29) = V at *
    have zb : b < V.heap.size := by omega
    go_wp2_with (refine at_op (.store 29 (.tmp 2) (.tmp 32)) rfl ?_; refine wpList_stA (t := 29) 29 (.tmp 2) (.tmp 32) rfl rfl (flC false 0 0 false 0 0 0 0 0) (flC false 0 0 false 0 0 0 0 0) rfl (flC_one _ _ _ _ _ _ _ _ _) rfl rfl b2 (szFl _ _ _ _ _ _ _ _ _) ?_; intro W9 h9 g9)
    refine bodyPost_agg3 Try.results49 rfl rfl rfl h9.range u1 u2 (szFl _ _ _ _ _ _ _ _ _) rfl (RetV.mk ?_)
    exact below_grown be g9 (by omega)
set_option maxHeartbeats 4000000 in
set_option maxRecDepth 100000 in
theorem open4_3 (A : Option Addr) (n c : Nat) (l : List UInt8) (w : World) (h : Rb w A n c l) (hm : n ≤ 1000000) (x f : Nat) (hx : num ((l.drop 0).take 1) = x) (hxf : num ((l.drop 6).take 2) = f) (hn : 20 ≤ n) (hv : x / 16 = 4) (hs : 20 ≤ 4 * (x % 16)) (hs8 : 4 * (x % 16) + 8 ≤ n) (hf : f % 16384 ≠ 0) : Calls Try.prog 49 #[.slice A n c] w (RetV w (.tuple #[.agg (flC false 0 0 false 0 0 0 0 0).toArray, .slice none 0 0, .bool false])) := by
  have hc := h.2.1
  have hl := h.1
  obtain ⟨b, off, rfl, hbl, hcell⟩ := h.2.2.at_ (by rw [bcs_length, h.1]; omega)
  have y0 := num_cell hcell 0 (by omega)
  rw [hx, Nat.add_zero] at y0
  have hx8 : x < 256 := by rw [← hx]; exact num_lt' l 0 1 256 (by decide)
  have a1 : decide ((n : Int) < 20) = false := by simp only [decide_eq_false_iff_not]; omega
  have a2 : decide (n < 20) = false := by simp only [decide_eq_false_iff_not]; omega
  have i0 : (0 : Int) < (n : Int) := by omega
  have i1 : 0 < n := by omega
  obtain ⟨q, hq⟩ : ∃ q : Nat, q = x / 16 := ⟨_, rfl⟩
  have e1 : (x : Int) / 16 = (q : Int) := by omega
  obtain rfl : q = 4 := by omega
  obtain ⟨m, hm0⟩ : ∃ m : Nat, x % 16 = m := ⟨_, rfl⟩
  have ea := u8_and15 x hx8
  rw [hm0] at ea
  obtain ⟨z, hz⟩ : ∃ z : Nat, z = 4 * m := ⟨_, rfl⟩
  have e2 : IntKind.i64.wrap (m : Int) = (m : Int) := IntWalk.i64_in _ (by omega)
  have e3 : IntKind.i64.wrap ((m : Int) * 4) = (z : Int) := by rw [IntWalk.i64_in _ (by omega)]; omega
  obtain ⟨z8, hz8⟩ : ∃ k : Nat, k = z + 8 := ⟨_, rfl⟩
  have e4 : IntKind.i64.wrap ((z : Int) + 8) = (z8 : Int) := by rw [IntWalk.i64_in _ (by omega)]; omega
  have c1 : decide ((z : Int) < 20) = false := by simp only [decide_eq_false_iff_not]; omega
  have c2 : decide (z < 20) = false := by simp only [decide_eq_false_iff_not]; omega
  have c3 : decide ((n : Int) < (z8 : Int)) = false := by simp only [decide_eq_false_iff_not]; omega
  have c4 : decide (n < z8) = false := by simp only [decide_eq_false_iff_not]; omega
  have hf16 : f < 65536 := by rw [← hxf]; exact num_lt' l 6 2 65536 (by decide)
  have ef := and16383 f hf16
  have j68 : (8 : Int) ≤ (c : Int) := by omega
  have h68 : Rb w (cutA (some ⟨b, off, none⟩) c 6 1) 2 (c - 6) ((l.drop 6).take 2) := (h.cut (k := 6) (by omega)).take (by omega)
  have h68l := h68.1
  have HRD := Lib.hid (fun w (h : Rb w (cutA (some ⟨b, off, none⟩) c 6 1) 2 (c - 6) ((l.drop 6).take 2)) => readK _ _ _ _ w h (by decide))
  generalize (l.drop 6).take 2 = fb at *
  have hxf2 : Hid (num ((fb.drop 0).take 2) = f) := Lib.hid (by rw [List.drop_zero, List.take_of_length_le (by omega)]; exact hxf)
  have nf : (((f % 16384 : Nat) : Int) != 0) = true := by rw [bne_iff_ne]; omega
  generalize f % 16384 = fm at *
  obtain ⟨du, u1, u2⟩ := rowFl
  have b2 : Bk (w.alloc (.cells #[.bool false, .int .u64 0, .int .u64 0, .bool false, .int .u64 0, .int .u64 0, .int .u16 0, .int .u16 0, .int .u8 0] 29)) w.heap.size 29 (flC false 0 0 false 0 0 0 0 0) := Bk.new w 29 #[.bool false, .int .u64 0, .int .u64 0, .bool false, .int .u64 0, .int .u64 0, .int .u16 0, .int .u16 0, .int .u8 0]
  have be : Below w.heap.size w (w.alloc (.cells #[.bool false, .int .u64 0, .int .u64 0, .bool false, .int .u64 0, .int .u64 0, .int .u16 0, .int .u16 0, .int .u8 0] 29)) := Below.allocS (Below.refl _ _) _
  clear hv hx hn hm hcell hs hs8 hz hm0 hz8 hq hxf hf
  go_enter Try.func49, Try.ntmps49
  go_upto_region 1 with (fail)
  have yV := be.cell (p := ⟨b, off, none⟩) hbl
  rw [y0] at yV
  have zV := be.size
  generalize w.alloc (.cells #[.bool false, .int .u64 0, .int .u64 0, .bool false, .int .u64 0, .int .u64 0, .int .u16 0, .int .u16 0, .int .u8 0] 29) = V at *
  have zb : b < V.heap.size := by omega
  go_wp2_with fail
  refine (HRD.out _ (h68.later be)).mono ?_
  rintro e w1 ⟨r, bs1, d1, rfl, rfl, hr1, hR⟩
  have zb2 := b2.lt
  replace b2 := b2.later (below_plus _ bs1 d1)
  replace be := belowP be bs1 d1
  have hr2 : w.heap.size < r := by omega
  have zs := be.size
  generalize plus V bs1 d1 = V1 at *
  go_wp2_with fail
  refine (wordG V1 r fb 0 f hR (by omega) (by omega) hxf2.out).mono ?_
  rintro e V2 ⟨rfl, hR1, hg1⟩
  replace b2 := b2.grown hg1 (by simp; omega)
  replace be := below_grown be hg1 (by omega)
  clear hg1 hR hR1
  go_wp2_with (refine at_op (.store 29 (.tmp 2) (.tmp 39)) rfl ?_; refine wpList_stA (t := 29) 29 (.tmp 2) (.tmp 39) rfl rfl (flC false 0 0 false 0 0 0 0 0) (flC false 0 0 false 0 0 0 0 0) rfl (flC_one _ _ _ _ _ _ _ _ _) rfl rfl b2 (szFl _ _ _ _ _ _ _ _ _) ?_; intro W9 h9 g9)
  refine bodyPost_agg3 Try.results49 rfl rfl rfl h9.range u1 u2 (szFl _ _ _ _ _ _ _ _ _) rfl (RetV.mk ?_)
  exact below_grown be g9 (by omega)
/-- what open4, open6 give -/
def RetOp (w : World) (s1 : Bool) (h1 l1 : Nat) (s2 : Bool) (h2 l2 p : Nat) (L : List UInt8) (e : Ending) (w' : World) : Prop := ∃ A n c bs d, e = .returned (.tuple #[.agg (flC s1 h1 l1 s2 h2 l2 0 0 p).toArray, .slice A n c, .bool true]) ∧ w' = plus w bs d ∧ Rb (plus w bs d) A n c L
set_option maxHeartbeats 4000000 in
set_option maxRecDepth 100000 in
theorem open4_ok (A : Option Addr) (n c : Nat) (l : List UInt8) (w : World) (h : Rb w A n c l) (hm : n ≤ 1000000) (x f p sa da : Nat) (hx : num ((l.drop 0).take 1) = x) (hxf : num ((l.drop 6).take 2) = f) (hxp : num ((l.drop 9).take 1) = p) (hxs : num ((l.drop 12).take 4) = sa) (hxd : num ((l.drop 16).take 4) = da) (hn : 20 ≤ n) (hv : x / 16 = 4) (hs : 20 ≤ 4 * (x % 16)) (hs8 : 4 * (x % 16) + 8 ≤ n) (hf : f % 16384 = 0) : Calls Try.prog 49 #[.slice A n c] w (RetOp w false 0 sa false 0 da p (l.drop (4 * (x % 16)))) := by
  have hc := h.2.1
  have hl := h.1
  obtain ⟨b, off, rfl, hbl, hcell⟩ := h.2.2.at_ (by rw [bcs_length, h.1]; omega)
  have y0 := num_cell hcell 0 (by omega)
  rw [hx, Nat.add_zero] at y0
  have hx8 : x < 256 := by rw [← hx]; exact num_lt' l 0 1 256 (by decide)
  have a1 : decide ((n : Int) < 20) = false := by simp only [decide_eq_false_iff_not]; omega
  have a2 : decide (n < 20) = false := by simp only [decide_eq_false_iff_not]; omega
  have i0 : (0 : Int) < (n : Int) := by omega
  have i1 : 0 < n := by omega
  obtain ⟨q, hq⟩ : ∃ q : Nat, q = x / 16 := ⟨_, rfl⟩
  have e1 : (x : Int) / 16 = (q : Int) := by omega
  obtain rfl : q = 4 := by omega
  obtain ⟨m, hm0⟩ : ∃ m : Nat, x % 16 = m := ⟨_, rfl⟩
  have ea := u8_and15 x hx8
  rw [hm0] at ea
  obtain ⟨z, hz⟩ : ∃ z : Nat, z = 4 * m := ⟨_, rfl⟩
  have e2 : IntKind.i64.wrap (m : Int) = (m : Int) := IntWalk.i64_in _ (by omega)
  have e3 : IntKind.i64.wrap ((m : Int) * 4) = (z : Int) := by rw [IntWalk.i64_in _ (by omega)]; omega
  obtain ⟨z8, hz8⟩ : ∃ k : Nat, k = z + 8 := ⟨_, rfl⟩
  have e4 : IntKind.i64.wrap ((z : Int) + 8) = (z8 : Int) := by rw [IntWalk.i64_in _ (by omega)]; omega
  have y9 := num_cell hcell 9 (by omega)
  rw [hxp] at y9
  have c1 : decide ((z : Int) < 20) = false := by simp only [decide_eq_false_iff_not]; omega
  have c2 : decide (z < 20) = false := by simp only [decide_eq_false_iff_not]; omega
  have c3 : decide ((n : Int) < (z8 : Int)) = false := by simp only [decide_eq_false_iff_not]; omega
  have c4 : decide (n < z8) = false := by simp only [decide_eq_false_iff_not]; omega
  have hf16 : f < 65536 := by rw [← hxf]; exact num_lt' l 6 2 65536 (by decide)
  have ef := and16383 f hf16
  have j68 : (8 : Int) ≤ (c : Int) := by omega
  have h68 : Rb w (cutA (some ⟨b, off, none⟩) c 6 1) 2 (c - 6) ((l.drop 6).take 2) := (h.cut (k := 6) (by omega)).take (by omega)
  have h68l := h68.1
  have HRD := Lib.hid (fun w (h : Rb w (cutA (some ⟨b, off, none⟩) c 6 1) 2 (c - 6) ((l.drop 6).take 2)) => readK _ _ _ _ w h (by decide))
  generalize (l.drop 6).take 2 = fb at *
  have hxf2 : Hid (num ((fb.drop 0).take 2) = f) := Lib.hid (by rw [List.drop_zero, List.take_of_length_le (by omega)]; exact hxf)
  rw [hf] at ef
  have i9 : (9 : Int) < (n : Int) := by omega
  have i9n : 9 < n := by omega
  have j1 : (16 : Int) ≤ (c : Int) := by omega
  have j2 : (20 : Int) ≤ (c : Int) := by omega
  have j3 : (0 : Int) ≤ (z : Int) := by omega
  have j4 : (z : Int) ≤ (n : Int) := by omega
  have hA1 : Rb w (cutA (some ⟨b, off, none⟩) c 12 1) 4 (c - 12) ((l.drop 12).take 4) := (h.cut (k := 12) (by omega)).take (by omega)
  have hA2 : Rb w (cutA (some ⟨b, off, none⟩) c 16 1) 4 (c - 16) ((l.drop 16).take 4) := (h.cut (k := 16) (by omega)).take (by omega)
  have hz4 : 4 * (x % 16) = z := by omega
  rw [hz4]
  have hLd : Rb w (cutA (some ⟨b, off, none⟩) c z 1) (n - z) (c - z) (l.drop z) := h.cut (k := z) (by omega)
  have HFL := Lib.hid (fun w (h1 : Rb w (cutA (some ⟨b, off, none⟩) c 12 1) 4 (c - 12) ((l.drop 12).take 4)) (h2 : Rb w (cutA (some ⟨b, off, none⟩) c 16 1) 4 (c - 16) ((l.drop 16).take 4)) => steFlow _ 4 _ _ 4 _ false 0 sa false 0 da p w (fun w' hb => adrOf4 sa _ _ _ w' (h1.later hb) hxs) (fun w' hb => adrOf4 da _ _ _ w' (h2.later hb) hxd))
  obtain ⟨du, u1, u2⟩ := rowFl
  have b2 : Bk (w.alloc (.cells #[.bool false, .int .u64 0, .int .u64 0, .bool false, .int .u64 0, .int .u64 0, .int .u16 0, .int .u16 0, .int .u8 0] 29)) w.heap.size 29 (flC false 0 0 false 0 0 0 0 0) := Bk.new w 29 #[.bool false, .int .u64 0, .int .u64 0, .bool false, .int .u64 0, .int .u64 0, .int .u16 0, .int .u16 0, .int .u8 0]
  have be : Below w.heap.size w (w.alloc (.cells #[.bool false, .int .u64 0, .int .u64 0, .bool false, .int .u64 0, .int .u64 0, .int .u16 0, .int .u16 0, .int .u8 0] 29)) := Below.allocS (Below.refl _ _) _
  clear hv hx hn hm hcell hs hs8 hz hm0 hz8 hq hxf hf hz4
  go_enter Try.func49, Try.ntmps49
  go_upto_region 1 with (fail)
  have yV := be.cell (p := ⟨b, off, none⟩) hbl
  rw [y0] at yV
  have zV := be.size
  generalize w.alloc (.cells #[.bool false, .int .u64 0, .int .u64 0, .bool false, .int .u64 0, .int .u64 0, .int .u16 0, .int .u16 0, .int .u8 0] 29) = V at *
  have zb : b < V.heap.size := by omega
  go_wp2_with fail
  refine (HRD.out _ (h68.later be)).mono ?_
  rintro e w1 ⟨r, bs1, d1, rfl, rfl, hr1, hR⟩
  have zb2 := b2.lt
  replace b2 := b2.later (below_plus _ bs1 d1)
  replace be := belowP be bs1 d1
  have hr2 : w.heap.size < r := by omega
  have zs := be.size
  generalize plus V bs1 d1 = V1 at *
  go_wp2_with fail
  refine (wordG V1 r fb 0 f hR (by omega) (by omega) hxf2.out).mono ?_
  rintro e V2 ⟨rfl, hR1, hg1⟩
  replace b2 := b2.grown hg1 (by simp; omega)
  replace be := below_grown be hg1 (by omega)
  clear hg1 hR hR1
  go_upto_region 8 with (fail)
  have zbW := Nat.lt_of_lt_of_le hbl be.size
  have yW := (be.cell (p := ⟨b, off + 9, none⟩) hbl).trans y9
  replace hA1 := hA1.later be
  replace hA2 := hA2.later be
  replace hLd := hLd.later be
  have nA : ∀ k a, cutA (some ⟨b, off, none⟩) c k 1 = some a → ¬ (fun b => b = w.heap.size) a.block := fun k a ha h => by
    have h' : a.block = w.heap.size := h
    have : a.block = b := by
      unfold cutA at ha
      split at ha
      · injection ha with ha; subst ha; rfl
      · simp [add_plain] at ha; subst ha; rfl
    omega
  go_wp2
  refine wp_suS (fun b => b = w.heap.size) 14 51 2 [11] rfl (by kernel_rfl) (by kernel_rfl) (fun k w' => Bk w' w.heap.size 29 (if k = 0 then flC false 0 0 false 0 0 0 0 0 else flC false 0 sa false 0 da 0 0 p)) (fun k w w' h h' => h.later h'.below) (b2) ?_
  apply StepsC.one (MC.eq _) 1 rfl (by decide)
  · intro o ho FA w' hC hO hD K hK
    obtain rfl := Option.some.inj ho.symm
    clear ho
    have e0 := hO 0 (by kernel_rfl)
    simp only [eval_tmp, List.getElem?_toArray, List.getElem?_cons_succ, List.getElem?_cons_zero, Option.getD_some] at e0
    have ev0 := Lib.hid ((eval_tmp FA 0).trans e0)
    clear hO hD
    go_simp
    exact hK.out _ _ (Ex.refl _) rfl
  apply StepsC.one (MC.eq _) 2 rfl (by decide)
  · intro o ho FA w' hC hO hD K hK
    obtain rfl := Option.some.inj ho.symm
    clear ho
    have ev40 : FA.eval (.tmp 40) = _ := hD 0 40 (by kernel_rfl)
    have e40 := (eval_tmp FA 40).symm.trans ev40
    replace ev40 := Lib.hid ev40
    clear hO hD
    go_simp
    exact hK.out _ _ (Ex.refl _) rfl
  apply StepsC.one (MC.eq _) 3 rfl (by decide)
  · intro o ho FA w' hC hO hD K hK
    obtain rfl := Option.some.inj ho.symm
    clear ho
    have e0 := hO 0 (by kernel_rfl)
    simp only [eval_tmp, List.getElem?_toArray, List.getElem?_cons_succ, List.getElem?_cons_zero, Option.getD_some] at e0
    have ev0 := Lib.hid ((eval_tmp FA 0).trans e0)
    clear hO hD
    go_simp
    exact hK.out _ _ (Ex.refl _) rfl
  apply StepsC.one (MC.eq _) 4 rfl (by decide)
  · intro o ho FA w' hC hO hD K hK
    obtain rfl := Option.some.inj ho.symm
    clear ho
    have ev42 : FA.eval (.tmp 42) = _ := hD 2 42 (by kernel_rfl)
    have e42 := (eval_tmp FA 42).symm.trans ev42
    replace ev42 := Lib.hid ev42
    clear hO hD
    go_simp
    exact hK.out _ _ (Ex.refl _) rfl
  apply StepsC.one (MC.eq _) 5 rfl (by decide)
  · intro o ho FA w' hC hO hD K hK
    obtain rfl := Option.some.inj ho.symm
    clear ho
    have e0 := hO 0 (by kernel_rfl)
    simp only [eval_tmp, List.getElem?_toArray, List.getElem?_cons_succ, List.getElem?_cons_zero, Option.getD_some] at e0
    have ev0 := Lib.hid ((eval_tmp FA 0).trans e0)
    clear hO hD
    go_simp
    exact hK.out _ _ (Ex.refl _) rfl
  apply StepsC.one (MC.eq _) 6 rfl (by decide)
  · intro o ho FA w' hC hO hD K hK
    obtain rfl := Option.some.inj ho.symm
    clear ho
    have ev44 : FA.eval (.tmp 44) = _ := hD 4 44 (by kernel_rfl)
    have e44 := (eval_tmp FA 44).symm.trans ev44
    replace ev44 := Lib.hid ev44
    clear hO hD
    go_simp
    exact hK.out _ _ (Ex.refl _) rfl
  apply StepsC.one (MC.eq _) 7 rfl (by decide)
  · intro o ho FA w' hC hO hD K hK
    obtain rfl := Option.some.inj ho.symm
    clear ho
    have ev45 : FA.eval (.tmp 45) = _ := hD 5 45 (by kernel_rfl)
    have e45 := (eval_tmp FA 45).symm.trans ev45
    replace ev45 := Lib.hid ev45
    clear hO hD
    have cc : w'.cell? ⟨b, off + 9, none⟩ = some (.int .u8 (p : Int)) := (World.cell?_of_block (hC.block b zbW (fun h => by have h' : b = w.heap.size := h; omega))).trans yW
    go_simp
    exact hK.out _ _ (Ex.refl _) rfl
  apply StepsC.one (MC.eq _) 8 rfl (by decide)
  · intro o ho FA w' hC hO hD K hK
    obtain rfl := Option.some.inj ho.symm
    clear ho
    have ev41 : FA.eval (.tmp 41) = _ := hD 1 41 (by kernel_rfl)
    have e41 := (eval_tmp FA 41).symm.trans ev41
    replace ev41 := Lib.hid ev41
    have ev43 : FA.eval (.tmp 43) = _ := hD 3 43 (by kernel_rfl)
    have e43 := (eval_tmp FA 43).symm.trans ev43
    replace ev43 := Lib.hid ev43
    have ev46 : FA.eval (.tmp 46) = _ := hD 6 46 (by kernel_rfl)
    have e46 := (eval_tmp FA 46).symm.trans ev46
    replace ev46 := Lib.hid ev46
    clear hO hD
    go_simp
    refine (HFL.out _ (hA1.chg hC (nA _)) (hA2.chg hC (nA _))).mono ?_
    rintro e w1 ⟨bs2, d2, rfl, rfl⟩
    exact hK.out _ _ (Ex.plus_ _ _ _) rfl
  apply StepsC.one (MC.eq _) 9 rfl (by decide)
  · intro o ho FA w' hC hO hD K hK
    obtain rfl := Option.some.inj ho.symm
    clear ho
    have e0 := hO 0 (by kernel_rfl)
    simp only [eval_tmp, List.getElem?_toArray, List.getElem?_cons_succ, List.getElem?_cons_zero, Option.getD_some] at e0
    have ev0 := Lib.hid ((eval_tmp FA 0).trans e0)
    clear hO hD
    go_simp
    exact hK.out _ _ (Ex.refl _) rfl
  apply StepsC.one (MC.eq _) 10 rfl (by decide)
  · intro o ho FA w' hC hO hD K hK
    obtain rfl := Option.some.inj ho.symm
    clear ho
    have e5 := hO 5 (by kernel_rfl)
    simp only [eval_tmp, List.getElem?_toArray, List.getElem?_cons_succ, List.getElem?_cons_zero, Option.getD_some] at e5
    have ev5 := Lib.hid ((eval_tmp FA 5).trans e5)
    clear hO hD
    go_simp
    exact hK.out _ _ (Ex.refl _) rfl
  apply StepsC.one (MC.eq _) 11 rfl (by decide)
  · intro o ho FA w' hC hO hD K hK
    obtain rfl := Option.some.inj ho.symm
    clear ho
    have ev48 : FA.eval (.tmp 48) = _ := hD 8 48 (by kernel_rfl)
    have e48 := (eval_tmp FA 48).symm.trans ev48
    replace ev48 := Lib.hid ev48
    have ev49 : FA.eval (.tmp 49) = _ := hD 9 49 (by kernel_rfl)
    have e49 := (eval_tmp FA 49).symm.trans ev49
    replace ev49 := Lib.hid ev49
    clear hO hD
    go_simp
    exact hK.out _ _ (Ex.refl _) rfl
  apply StepsC.mov MC.any 12 0 rfl rfl rfl
  · intro o ho FA w' hC hO hD hS K hK
    obtain rfl := Option.some.inj ho.symm
    clear ho
    have e2 := hO 2 (by kernel_rfl)
    simp only [eval_tmp, List.getElem?_toArray, List.getElem?_cons_succ, List.getElem?_cons_zero, Option.getD_some] at e2
    have ev2 := Lib.hid ((eval_tmp FA 2).trans e2)
    have ev47 : FA.eval (.tmp 47) = _ := hD 7 47 (by kernel_rfl)
    have e47 := (eval_tmp FA 47).symm.trans ev47
    replace ev47 := Lib.hid ev47
    clear hO hD
    refine wanted_if rfl ?_
    refine wp_stA 29 (.tmp 2) (.tmp 47) rfl (flC false 0 sa false 0 da 0 0 p) (flC false 0 0 false 0 0 0 0 0) rfl (flC_one _ _ _ _ _ _ _ _ _) ev2.out ev47.out hS (szFl _ _ _ _ _ _ _ _ _) ?_
    intro w'' hn hg
    exact hK.out undef _ (Chg.one hg rfl) hn trivial
  apply StepsC.one (MC.eq _) 13 rfl (by decide)
  · intro o ho FA w' hC hO hD K hK
    obtain rfl := Option.some.inj ho.symm
    clear ho
    have ev50 : FA.eval (.tmp 50) = _ := hD 10 50 (by kernel_rfl)
    have e50 := (eval_tmp FA 50).symm.trans ev50
    replace ev50 := Lib.hid ev50
    clear hO hD
    go_simp
    exact hK.out _ _ (Ex.refl _) rfl
  apply StepsC.one (MC.eq _) 14 rfl (by decide)
  · intro o ho FA w' hC hO hD K hK
    obtain rfl := Option.some.inj ho.symm
    clear ho
    clear hO hD
    go_simp
    exact hK.out _ _ (Ex.refl _) rfl
  refine StepsC.fin_ (fun vs w' hC hS hp => ?_)
  have p0 : vs 0 = _ := hp 0 (by omega) rfl
  have p1 : vs 1 = _ := hp 1 (by omega) rfl
  have p2 : vs 2 = _ := hp 2 (by omega) rfl
  have p3 : vs 3 = _ := hp 3 (by omega) rfl
  have p4 : vs 4 = _ := hp 4 (by omega) rfl
  have p5 : vs 5 = _ := hp 5 (by omega) rfl
  have p6 : vs 6 = _ := hp 6 (by omega) rfl
  have p7 : vs 7 = _ := hp 7 (by omega) rfl
  have p8 : vs 8 = _ := hp 8 (by omega) rfl
  have p9 : vs 9 = _ := hp 9 (by omega) rfl
  have p10 : vs 10 = _ := hp 10 (by omega) rfl
  have p12 : vs 12 = _ := hp 12 (by omega) rfl
  have p13 : vs 13 = _ := hp 13 (by omega) rfl
  clear hp
  simp only [List.take_succ_cons, List.take_zero, List.drop_succ_cons, List.drop_zero, putAll, Nat.zero_add, Nat.reduceAdd, Act.put, List.setIfInBounds_toArray, List.set_cons_zero, List.set_cons_succ, p0, p1, p2, p3, p4, p5, p6, p7, p8, p9, p10, p12, p13]
  clear p0 p1 p2 p3 p4 p5 p6 p7 p8 p9 p10 p12 p13
  clear vs
  replace hLd := hLd.chg hC (nA _)
  replace be : Below w.heap.size w w' := be.trans (hC.below (B := w.heap.size) (fun b hb => by have : b = w.heap.size := hb; omega) be.size)
  go_wp2
  refine bodyPost_agg3 Try.results49 rfl rfl rfl (Bk.range hS) u1 u2 (szFl _ _ _ _ _ _ _ _ _) rfl ?_
  obtain ⟨bs, d, rfl⟩ := plus_of be
  exact ⟨_, _, _, bs, d, rfl, rfl, hLd⟩
set_option maxHeartbeats 4000000 in
set_option maxRecDepth 100000 in
theorem open6_ok (A : Option Addr) (n c : Nat) (l : List UInt8) (w : World) (h : Rb w A n c l) (hm : n ≤ 1000000) (x p sh sl dh dl : Nat) (hx : num ((l.drop 0).take 1) = x) (hxp : num ((l.drop 6).take 1) = p) (z0 : (l.drop 8).take 16 = dig sh 8 ++ dig sl 8) (z1 : (l.drop 24).take 16 = dig dh 8 ++ dig dl 8) (k1 : sh < 18446744073709551616) (k2 : sl < 18446744073709551616) (k3 : dh < 18446744073709551616) (k4 : dl < 18446744073709551616) (hn : 48 ≤ n) (hv : x / 16 = 6) : Calls Try.prog 50 #[.slice A n c] w (RetOp w true sh sl true dh dl p (l.drop 40)) := by
  have hc := h.2.1
  have hl := h.1
  obtain ⟨b, off, rfl, hbl, hcell⟩ := h.2.2.at_ (by rw [bcs_length, h.1]; omega)
  have y0 := num_cell hcell 0 (by omega)
  rw [hx, Nat.add_zero] at y0
  have hx8 : x < 256 := by rw [← hx]; exact num_lt' l 0 1 256 (by decide)
  have a1 : decide ((n : Int) < 48) = false := by simp only [decide_eq_false_iff_not]; omega
  have a2 : decide (n < 48) = false := by simp only [decide_eq_false_iff_not]; omega
  have i0 : (0 : Int) < (n : Int) := by omega
  have i1 : 0 < n := by omega
  obtain ⟨q, hq⟩ : ∃ q : Nat, q = x / 16 := ⟨_, rfl⟩
  have e1 : (x : Int) / 16 = (q : Int) := by omega
  obtain rfl : q = 6 := by omega
  have y9 := num_cell hcell 6 (by omega)
  rw [hxp] at y9
  have i9 : (6 : Int) < (n : Int) := by omega
  have i9n : 6 < n := by omega
  have j1 : (24 : Int) ≤ (c : Int) := by omega
  have j2 : (40 : Int) ≤ (c : Int) := by omega
  have j3 : (40 : Int) ≤ (n : Int) := by omega
  have hA1 : Rb w (cutA (some ⟨b, off, none⟩) c 8 1) 16 (c - 8) (dig sh 8 ++ dig sl 8) := by
    have := (h.cut (k := 8) (by omega)).take (k := 16) (by omega)
    rwa [z0] at this
  have hA2 : Rb w (cutA (some ⟨b, off, none⟩) c 24 1) 16 (c - 24) (dig dh 8 ++ dig dl 8) := by
    have := (h.cut (k := 24) (by omega)).take (k := 16) (by omega)
    rwa [z1] at this
  have hLd : Rb w (cutA (some ⟨b, off, none⟩) c 40 1) (n - 40) (c - 40) (l.drop 40) := h.cut (k := 40) (by omega)
  have HFL := Lib.hid (fun w (h1 : Rb w (cutA (some ⟨b, off, none⟩) c 8 1) 16 (c - 8) (dig sh 8 ++ dig sl 8)) (h2 : Rb w (cutA (some ⟨b, off, none⟩) c 24 1) 16 (c - 24) (dig dh 8 ++ dig dl 8)) => steFlow _ 16 _ _ 16 _ true sh sl true dh dl p w (fun w' hb => adrOf16 sh sl _ _ w' k1 k2 (h1.later hb)) (fun w' hb => adrOf16 dh dl _ _ w' k3 k4 (h2.later hb)))
  obtain ⟨du, u1, u2⟩ := rowFl
  have b2 : Bk (w.alloc (.cells #[.bool false, .int .u64 0, .int .u64 0, .bool false, .int .u64 0, .int .u64 0, .int .u16 0, .int .u16 0, .int .u8 0] 29)) w.heap.size 29 (flC false 0 0 false 0 0 0 0 0) := Bk.new w 29 #[.bool false, .int .u64 0, .int .u64 0, .bool false, .int .u64 0, .int .u64 0, .int .u16 0, .int .u16 0, .int .u8 0]
  have be : Below w.heap.size w (w.alloc (.cells #[.bool false, .int .u64 0, .int .u64 0, .bool false, .int .u64 0, .int .u64 0, .int .u16 0, .int .u16 0, .int .u8 0] 29)) := Below.allocS (Below.refl _ _) _
  clear hv hx hn hm hcell hq z0 z1
  go_enter Try.func50, Try.ntmps50
  go_upto_region 1 with (fail)
  have yV := be.cell (p := ⟨b, off, none⟩) hbl
  rw [y0] at yV
  have zV := be.size
  generalize w.alloc (.cells #[.bool false, .int .u64 0, .int .u64 0, .bool false, .int .u64 0, .int .u64 0, .int .u16 0, .int .u16 0, .int .u8 0] 29) = V at *
  have zb : b < V.heap.size := by omega
  go_upto_region 3 with (fail)
  have zbW := Nat.lt_of_lt_of_le hbl be.size
  have yW := (be.cell (p := ⟨b, off + 6, none⟩) hbl).trans y9
  replace hA1 := hA1.later be
  replace hA2 := hA2.later be
  replace hLd := hLd.later be
  have nA : ∀ k a, cutA (some ⟨b, off, none⟩) c k 1 = some a → ¬ (fun b => b = w.heap.size) a.block := fun k a ha h => by
    have h' : a.block = w.heap.size := h
    have : a.block = b := by
      unfold cutA at ha
      split at ha
      · injection ha with ha; subst ha; rfl
      · simp [add_plain] at ha; subst ha; rfl
    omega
  go_wp2
  refine wp_suS (fun b => b = w.heap.size) 13 26 2 [10] rfl (by kernel_rfl) (by kernel_rfl) (fun k w' => Bk w' w.heap.size 29 (if k = 0 then flC false 0 0 false 0 0 0 0 0 else flC true sh sl true dh dl 0 0 p)) (fun k w w' h h' => h.later h'.below) (b2) ?_
  apply StepsC.one (MC.eq _) 1 rfl (by decide)
  · intro o ho FA w' hC hO hD K hK
    obtain rfl := Option.some.inj ho.symm
    clear ho
    have e0 := hO 0 (by kernel_rfl)
    simp only [eval_tmp, List.getElem?_toArray, List.getElem?_cons_succ, List.getElem?_cons_zero, Option.getD_some] at e0
    have ev0 := Lib.hid ((eval_tmp FA 0).trans e0)
    clear hO hD
    go_simp
    exact hK.out _ _ (Ex.refl _) rfl
  apply StepsC.one (MC.eq _) 2 rfl (by decide)
  · intro o ho FA w' hC hO hD K hK
    obtain rfl := Option.some.inj ho.symm
    clear ho
    have ev16 : FA.eval (.tmp 16) = _ := hD 0 16 (by kernel_rfl)
    have e16 := (eval_tmp FA 16).symm.trans ev16
    replace ev16 := Lib.hid ev16
    clear hO hD
    go_simp
    exact hK.out _ _ (Ex.refl _) rfl
  apply StepsC.one (MC.eq _) 3 rfl (by decide)
  · intro o ho FA w' hC hO hD K hK
    obtain rfl := Option.some.inj ho.symm
    clear ho
    have e0 := hO 0 (by kernel_rfl)
    simp only [eval_tmp, List.getElem?_toArray, List.getElem?_cons_succ, List.getElem?_cons_zero, Option.getD_some] at e0
    have ev0 := Lib.hid ((eval_tmp FA 0).trans e0)
    clear hO hD
    go_simp
    exact hK.out _ _ (Ex.refl _) rfl
  apply StepsC.one (MC.eq _) 4 rfl (by decide)
  · intro o ho FA w' hC hO hD K hK
    obtain rfl := Option.some.inj ho.symm
    clear ho
    have ev18 : FA.eval (.tmp 18) = _ := hD 2 18 (by kernel_rfl)
    have e18 := (eval_tmp FA 18).symm.trans ev18
    replace ev18 := Lib.hid ev18
    clear hO hD
    go_simp
    exact hK.out _ _ (Ex.refl _) rfl
  apply StepsC.one (MC.eq _) 5 rfl (by decide)
  · intro o ho FA w' hC hO hD K hK
    obtain rfl := Option.some.inj ho.symm
    clear ho
    have e0 := hO 0 (by kernel_rfl)
    simp only [eval_tmp, List.getElem?_toArray, List.getElem?_cons_succ, List.getElem?_cons_zero, Option.getD_some] at e0
    have ev0 := Lib.hid ((eval_tmp FA 0).trans e0)
    clear hO hD
    go_simp
    exact hK.out _ _ (Ex.refl _) rfl
  apply StepsC.one (MC.eq _) 6 rfl (by decide)
  · intro o ho FA w' hC hO hD K hK
    obtain rfl := Option.some.inj ho.symm
    clear ho
    have ev20 : FA.eval (.tmp 20) = _ := hD 4 20 (by kernel_rfl)
    have e20 := (eval_tmp FA 20).symm.trans ev20
    replace ev20 := Lib.hid ev20
    clear hO hD
    go_simp
    exact hK.out _ _ (Ex.refl _) rfl
  apply StepsC.one (MC.eq _) 7 rfl (by decide)
  · intro o ho FA w' hC hO hD K hK
    obtain rfl := Option.some.inj ho.symm
    clear ho
    have ev21 : FA.eval (.tmp 21) = _ := hD 5 21 (by kernel_rfl)
    have e21 := (eval_tmp FA 21).symm.trans ev21
    replace ev21 := Lib.hid ev21
    clear hO hD
    have cc : w'.cell? ⟨b, off + 6, none⟩ = some (.int .u8 (p : Int)) := (World.cell?_of_block (hC.block b zbW (fun h => by have h' : b = w.heap.size := h; omega))).trans yW
    go_simp
    exact hK.out _ _ (Ex.refl _) rfl
  apply StepsC.one (MC.eq _) 8 rfl (by decide)
  · intro o ho FA w' hC hO hD K hK
    obtain rfl := Option.some.inj ho.symm
    clear ho
    have ev17 : FA.eval (.tmp 17) = _ := hD 1 17 (by kernel_rfl)
    have e17 := (eval_tmp FA 17).symm.trans ev17
    replace ev17 := Lib.hid ev17
    have ev19 : FA.eval (.tmp 19) = _ := hD 3 19 (by kernel_rfl)
    have e19 := (eval_tmp FA 19).symm.trans ev19
    replace ev19 := Lib.hid ev19
    have ev22 : FA.eval (.tmp 22) = _ := hD 6 22 (by kernel_rfl)
    have e22 := (eval_tmp FA 22).symm.trans ev22
    replace ev22 := Lib.hid ev22
    clear hO hD
    go_simp
    refine (HFL.out _ (hA1.chg hC (nA _)) (hA2.chg hC (nA _))).mono ?_
    rintro e w1 ⟨bs2, d2, rfl, rfl⟩
    exact hK.out _ _ (Ex.plus_ _ _ _) rfl
  apply StepsC.one (MC.eq _) 9 rfl (by decide)
  · intro o ho FA w' hC hO hD K hK
    obtain rfl := Option.some.inj ho.symm
    clear ho
    have e0 := hO 0 (by kernel_rfl)
    simp only [eval_tmp, List.getElem?_toArray, List.getElem?_cons_succ, List.getElem?_cons_zero, Option.getD_some] at e0
    have ev0 := Lib.hid ((eval_tmp FA 0).trans e0)
    clear hO hD
    go_simp
    exact hK.out _ _ (Ex.refl _) rfl
  apply StepsC.one (MC.eq _) 10 rfl (by decide)
  · intro o ho FA w' hC hO hD K hK
    obtain rfl := Option.some.inj ho.symm
    clear ho
    have ev24 : FA.eval (.tmp 24) = _ := hD 8 24 (by kernel_rfl)
    have e24 := (eval_tmp FA 24).symm.trans ev24
    replace ev24 := Lib.hid ev24
    clear hO hD
    go_simp
    exact hK.out _ _ (Ex.refl _) rfl
  apply StepsC.mov MC.any 11 0 rfl rfl rfl
  · intro o ho FA w' hC hO hD hS K hK
    obtain rfl := Option.some.inj ho.symm
    clear ho
    have e2 := hO 2 (by kernel_rfl)
    simp only [eval_tmp, List.getElem?_toArray, List.getElem?_cons_succ, List.getElem?_cons_zero, Option.getD_some] at e2
    have ev2 := Lib.hid ((eval_tmp FA 2).trans e2)
    have ev23 : FA.eval (.tmp 23) = _ := hD 7 23 (by kernel_rfl)
    have e23 := (eval_tmp FA 23).symm.trans ev23
    replace ev23 := Lib.hid ev23
    clear hO hD
    refine wanted_if rfl ?_
    refine wp_stA 29 (.tmp 2) (.tmp 23) rfl (flC true sh sl true dh dl 0 0 p) (flC false 0 0 false 0 0 0 0 0) rfl (flC_one _ _ _ _ _ _ _ _ _) ev2.out ev23.out hS (szFl _ _ _ _ _ _ _ _ _) ?_
    intro w'' hn hg
    exact hK.out undef _ (Chg.one hg rfl) hn trivial
  apply StepsC.one (MC.eq _) 12 rfl (by decide)
  · intro o ho FA w' hC hO hD K hK
    obtain rfl := Option.some.inj ho.symm
    clear ho
    have ev25 : FA.eval (.tmp 25) = _ := hD 9 25 (by kernel_rfl)
    have e25 := (eval_tmp FA 25).symm.trans ev25
    replace ev25 := Lib.hid ev25
    clear hO hD
    go_simp
    exact hK.out _ _ (Ex.refl _) rfl
  apply StepsC.one (MC.eq _) 13 rfl (by decide)
  · intro o ho FA w' hC hO hD K hK
    obtain rfl := Option.some.inj ho.symm
    clear ho
    clear hO hD
    go_simp
    exact hK.out _ _ (Ex.refl _) rfl
  refine StepsC.fin_ (fun vs w' hC hS hp => ?_)
  have p0 : vs 0 = _ := hp 0 (by omega) rfl
  have p1 : vs 1 = _ := hp 1 (by omega) rfl
  have p2 : vs 2 = _ := hp 2 (by omega) rfl
  have p3 : vs 3 = _ := hp 3 (by omega) rfl
  have p4 : vs 4 = _ := hp 4 (by omega) rfl
  have p5 : vs 5 = _ := hp 5 (by omega) rfl
  have p6 : vs 6 = _ := hp 6 (by omega) rfl
  have p7 : vs 7 = _ := hp 7 (by omega) rfl
  have p8 : vs 8 = _ := hp 8 (by omega) rfl
  have p9 : vs 9 = _ := hp 9 (by omega) rfl
  have p11 : vs 11 = _ := hp 11 (by omega) rfl
  have p12 : vs 12 = _ := hp 12 (by omega) rfl
  clear hp
  simp only [List.take_succ_cons, List.take_zero, List.drop_succ_cons, List.drop_zero, putAll, Nat.zero_add, Nat.reduceAdd, Act.put, List.setIfInBounds_toArray, List.set_cons_zero, List.set_cons_succ, p0, p1, p2, p3, p4, p5, p6, p7, p8, p9, p11, p12]
  clear p0 p1 p2 p3 p4 p5 p6 p7 p8 p9 p11 p12
  clear vs
  replace hLd := hLd.chg hC (nA _)
  replace be : Below w.heap.size w w' := be.trans (hC.below (B := w.heap.size) (fun b hb => by have : b = w.heap.size := hb; omega) be.size)
  go_wp2
  refine bodyPost_agg3 Try.results50 rfl rfl rfl (Bk.range hS) u1 u2 (szFl _ _ _ _ _ _ _ _ _) rfl ?_
  obtain ⟨bs, d, rfl⟩ := plus_of be
  exact ⟨_, _, _, bs, d, rfl, rfl, hLd⟩
end Go.Proofs.Ytfmkndemkpecpaa
