/- Addresses of four bytes; steer.flow, steer.stamp (chapter 29). -/
import Derived.Test.YtfmkndemkpecpaaCom
import Derived.Test.YtfmkndemkpecpaaTcpS
import Derived.Test.YtfmkndemkpecpaaSuS
import Derived.Deep.CutBlock
namespace Go.Proofs.Ytfmkndemkpecpaa
open Go.RowKit
set_option linter.unusedVariables false
set_option linter.unusedSimpArgs false
attribute [local go_sem ↓] sliced_cut
attribute [local go_sem] cutA_zero

set_option maxHeartbeats 4000000 in
set_option maxRecDepth 100000 in
theorem adrOf4 (x : Nat) (l : List UInt8) (A : Option Addr) (c : Nat) (w : World) (h : Rb w A 4 c l) (hx : num l = x) : Calls Try.prog 154 #[.slice A 4 c] w (RetV w (.tuple #[.agg (adC false 0 x).toArray, .int .i64 0])) := by
  obtain ⟨dv, v1, v2⟩ : ∃ d, Try.prog.underlying 26 = some d ∧ d.isRow = true := ⟨_, Try.underlying26, rfl⟩
  have b2 : Bk (w.alloc (.cells #[.bool false, .int .u64 0, .int .u64 0] 26)) w.heap.size 26 (adC false 0 0) := Bk.new w 26 #[.bool false, .int .u64 0, .int .u64 0]
  have be : Below w.heap.size w (w.alloc (.cells #[.bool false, .int .u64 0, .int .u64 0] 26)) := Below.allocS (Below.refl _ _) _
  have hl := h.1
  have HR := Lib.hid (fun W (h : Rb W A 4 c l) => readK A 4 c l W h (by omega))
  have hx2 : Hid (num ((l.drop 0).take 4) = x) := Lib.hid (by rw [List.drop_zero, List.take_of_length_le (by omega)]; exact hx)
  clear hx
  go_enter Try.func154, Try.ntmps154
  go_upto_region 1 with (fail)
  replace h := h.later be
  generalize w.alloc (.cells #[.bool false, .int .u64 0, .int .u64 0] 26) = V at *
  have zb := be.size
  have z2 := b2.lt
  go_wp2_with fail
  refine (HR.out _ h).mono ?_
  rintro e w1 ⟨r, bs1, d1, rfl, rfl, hr1, hR⟩
  replace b2 := b2.later (below_plus _ bs1 d1)
  replace be := belowP be bs1 d1
  have hr2 : w.heap.size < r := by omega
  generalize plus V bs1 d1 = V1 at *
  go_wp2_with fail
  refine (numG V1 r l 0 x 4 (by omega) hR (by omega) (by omega) hx2.out).mono ?_
  rintro e V2 ⟨rfl, hR1, hg1⟩
  replace b2 := b2.grown hg1 (by simp; omega)
  replace be := below_grown be hg1 (by omega)
  clear hg1 hR hR1
  go_wp2_with (refine at_op (.store 26 (.tmp 2) (.tmp 13)) rfl ?_; refine wpList_stA (t := 26) 26 (.tmp 2) (.tmp 13) rfl rfl (adC false 0 x) (adC false 0 0) rfl (adC_one _ _ _) rfl rfl (b2) (szAd _ _ _) ?_; intro W4 h4 g4)
  refine bodyPost_agg2 Try.results154 rfl rfl h4.range v1 v2 (szAd _ _ _) rfl (RetV.mk ?_)
  exact below_grown be g4 (by omega)
set_option maxHeartbeats 4000000 in
set_option maxRecDepth 100000 in
theorem refOf4 (x : Nat) (l : List UInt8) (A : Option Addr) (c : Nat) (w : World) (h : Rb w A 4 c l) (hx : num l = x) : Calls Try.prog 55 #[.slice A 4 c] w (RetV w (.tuple #[.agg (adC false 0 x).toArray, .bool true])) := by
  obtain ⟨dv, v1, v2⟩ : ∃ d, Try.prog.underlying 26 = some d ∧ d.isRow = true := ⟨_, Try.underlying26, rfl⟩
  have b2 : Bk (w.alloc (.cells #[.bool false, .int .u64 0, .int .u64 0] 26)) w.heap.size 26 (adC false 0 0) := Bk.new w 26 #[.bool false, .int .u64 0, .int .u64 0]
  have be : Below w.heap.size w (w.alloc (.cells #[.bool false, .int .u64 0, .int .u64 0] 26)) := Below.allocS (Below.refl _ _) _
  have HN := Lib.hid (fun w (h : Rb w A 4 c l) => (by have := refNum_any A 4 c l w h (by decide); rwa [hx] at this : Calls Try.prog 113 #[.slice A 4 c] w fun e w' => e = .returned (.int .u64 (x : Nat)) ∧ w = w'))
  clear hx
  replace h := h.later be
  go_enter Try.func55, Try.ntmps55
  go_upto_region 1 with (fail)
  generalize w.alloc (.cells #[.bool false, .int .u64 0, .int .u64 0] 26) = V at *
  go_wp2_with fail
  refine (HN.out _ h).mono ?_
  rintro e w1 ⟨rfl, rfl⟩
  go_wp2_with (refine at_op (.store 26 (.tmp 2) (.tmp 9)) rfl ?_; refine wpList_stA (t := 26) 26 (.tmp 2) (.tmp 9) rfl rfl (adC false 0 x) (adC false 0 0) rfl (adC_one _ _ _) rfl rfl (b2) (szAd _ _ _) ?_; intro W4 h4 g4)
  refine bodyPost_agg2 Try.results55 rfl rfl h4.range v1 v2 (szAd _ _ _) rfl (RetV.mk ?_)
  exact below_grown be g4 (by omega)
def flC (s1 : Bool) (h1 l1 : Nat) (s2 : Bool) (h2 l2 : Nat) (sp dp p : Nat) : List Value := [.bool s1, .int .u64 (h1 : Int), .int .u64 (l1 : Int), .bool s2, .int .u64 (h2 : Int), .int .u64 (l2 : Int), .int .u16 (sp : Int), .int .u16 (dp : Int), .int .u8 (p : Int)]
theorem flC_one (s1 : Bool) (h1 l1 : Nat) (s2 : Bool) (h2 l2 : Nat) (sp dp p : Nat) : ∀ u ∈ flC s1 h1 l1 s2 h2 l2 sp dp p, u.oneCell' = true := by
  intro u hu
  simp only [flC, List.mem_cons, List.not_mem_nil, or_false] at hu
  rcases hu with rfl | rfl | rfl | rfl | rfl | rfl | rfl | rfl | rfl <;> rfl
theorem szFl (s1 : Bool) (h1 l1 : Nat) (s2 : Bool) (h2 l2 : Nat) (sp dp p : Nat) : (Try.prog.info? 29).map (·.size) = some (flC s1 h1 l1 s2 h2 l2 sp dp p).length := by kernel_rfl
theorem rowFl : ∃ d, Try.prog.underlying 29 = some d ∧ d.isRow = true := ⟨_, Try.underlying29, rfl⟩
set_option maxHeartbeats 4000000 in
set_option maxRecDepth 100000 in
theorem steFlow (A1 : Option Addr) (n1 c1 : Nat) (A2 : Option Addr) (n2 c2 : Nat) (s1 : Bool) (h1 l1 : Nat) (s2 : Bool) (h2 l2 p : Nat) (w : World)
    (H1 : ∀ w', Below w.heap.size w w' → Calls Try.prog 154 #[.slice A1 n1 c1] w' (RetV w' (.tuple #[.agg (adC s1 h1 l1).toArray, .int .i64 0])))
    (H2 : ∀ w', Below w.heap.size w w' → Calls Try.prog 154 #[.slice A2 n2 c2] w' (RetV w' (.tuple #[.agg (adC s2 h2 l2).toArray, .int .i64 0]))) :
    Calls Try.prog 110 #[.slice A1 n1 c1, .slice A2 n2 c2, .int .u8 (p : Int)] w (RetV w (.agg (flC s1 h1 l1 s2 h2 l2 0 0 p).toArray)) := by
  obtain ⟨dv, v1, v2⟩ : ∃ d, Try.prog.underlying 26 = some d ∧ d.isRow = true := ⟨_, Try.underlying26, rfl⟩
  obtain ⟨du, u1, u2⟩ := rowFl
  replace H1 := Lib.hid H1
  replace H2 := Lib.hid H2
  have b6 : Bk (w.alloc (.cells #[.bool false, .int .u64 0, .int .u64 0, .bool false, .int .u64 0, .int .u64 0, .int .u16 0, .int .u16 0, .int .u8 0] 29)) w.heap.size 29 (flC false 0 0 false 0 0 0 0 0) := Bk.new w 29 #[.bool false, .int .u64 0, .int .u64 0, .bool false, .int .u64 0, .int .u64 0, .int .u16 0, .int .u16 0, .int .u8 0]
  have be : Below w.heap.size w (w.alloc (.cells #[.bool false, .int .u64 0, .int .u64 0, .bool false, .int .u64 0, .int .u64 0, .int .u16 0, .int .u16 0, .int .u8 0] 29)) := Below.allocS (Below.refl _ _) _
  go_enter Try.func110, Try.ntmps110
  go_upto_region 1 with (fail)
  generalize w.alloc (.cells #[.bool false, .int .u64 0, .int .u64 0, .bool false, .int .u64 0, .int .u64 0, .int .u16 0, .int .u16 0, .int .u8 0] 29) = V at *
  have zb := be.size
  have z6 := b6.lt
  go_wp2_with fail
  refine (H1.out _ be).mono ?_
  rintro e w1 ⟨bs1, d1, rfl, rfl⟩
  go_upto_region 2 with (refine at_op (.store 26 (.tmp 7) (.tmp 14)) rfl ?_; refine wpList_stA (t := 26) 26 (.tmp 7) (.tmp 14) rfl rfl (adC s1 h1 l1) (adC false 0 0) rfl (adC_one _ _ _) rfl rfl ?_ (szAd _ _ _) ?_; (· refine Bk.newK _ _ _ ?_ rfl; simp [size_plus]); intro W7 hX g7)
  have b7 := below_grown (Below.allocS (below_plus V bs1 d1) _) g7 (by omega)
  replace be := be.trans (b7.mono zb)
  replace b6 := b6.later b7
  clear b7 g7
  have hne : w.heap.size < V.heap.size + bs1.length := by omega
  generalize V.heap.size + bs1.length = g7 at *
  have zX := hX.lt
  have zb := be.size
  go_wp2_with fail
  refine (H2.out _ be).mono ?_
  rintro e w1 ⟨bs2, d2, rfl, rfl⟩
  go_upto_region 3 with (refine at_op (.store 26 (.tmp 9) (.tmp 19)) rfl ?_; refine wpList_stA (t := 26) 26 (.tmp 9) (.tmp 19) rfl rfl (adC s2 h2 l2) (adC false 0 0) rfl (adC_one _ _ _) rfl rfl ?_ (szAd _ _ _) ?_; (· refine Bk.newK _ _ _ ?_ rfl; simp [size_plus]); intro W9 hY g9)
  have b9 := below_grown (Below.allocS (below_plus W7 bs2 d2) _) g9 (by omega)
  replace be := be.trans (b9.mono zb)
  replace b6 := b6.later b9
  replace hX := hX.later b9
  clear b9 g9
  generalize W7.heap.size + bs2.length = g9 at *
  unfold adC at hX hY
  go_wp2_with (first
    | (refine at_op (.load 26 (.tmp 7)) rfl ?_; refine wpList_ldA (t := 26) 26 (.tmp 7) rfl rfl ([.bool s1, .int .u64 (h1 : Int), .int .u64 (l1 : Int)]) rfl (hX) (whole_ _) v1 v2 (szAd s1 h1 l1) ?_)
    | (refine at_op (.load 26 (.tmp 9)) rfl ?_; refine wpList_ldA (t := 26) 26 (.tmp 9) rfl rfl ([.bool s2, .int .u64 (h2 : Int), .int .u64 (l2 : Int)]) rfl (hY) (whole_ _) v1 v2 (szAd s2 h2 l2) ?_)
    | (refine at_op (.store 29 (.tmp 6) (.tmp 24)) rfl ?_; refine wpList_stA (t := 29) 29 (.tmp 6) (.tmp 24) rfl rfl (flC s1 h1 l1 s2 h2 l2 0 0 p) (flC false 0 0 false 0 0 0 0 0) rfl (flC_one _ _ _ _ _ _ _ _ _) rfl rfl b6 (szFl _ _ _ _ _ _ _ _ _) ?_; intro W4 h4 g4))
  refine bodyPost_agg Try.results110 rfl h4.range u1 u2 (szFl _ _ _ _ _ _ _ _ _) rfl (RetV.mk ?_)
  exact below_grown be g4 (by omega)
theorem stamp_0 (A : Option Addr) (n c : Nat) (l : List UInt8) (w : World) (h : Rb w A n c l) (hm : n ≤ 1000000) (hn : n ≤ 12) : Calls Try.prog 53 #[.slice A n c] w (RetV w (.tuple #[.int .u32 0, .bool false])) := by
  have a1 : decide ((n : Int) ≤ 12) = true := by simp only [decide_eq_true_eq]; omega
  have a2 : decide (n ≤ 12) = true := by simp only [decide_eq_true_eq]; omega
  clear hn hm
  go_enter Try.func53, Try.ntmps53
  go_wp2
  go_ret2
  exact RetV.mk (Below.refl _ _)
set_option maxHeartbeats 4000000 in
set_option maxRecDepth 100000 in
theorem stamp_1 (A : Option Addr) (n c : Nat) (l : List UInt8) (w : World) (h : Rb w A n c l) (hm : n ≤ 1000000) (x : Nat) (hx : num ((l.drop 12).take 1) = x) (hn : 12 < n) (hm1 : x % 16 ≠ 0) : Calls Try.prog 53 #[.slice A n c] w (RetV w (.tuple #[.int .u32 0, .bool false])) := by
  have hc := h.2.1
  have hl := h.1
  obtain ⟨b, off, rfl, hbl, hcell⟩ := h.2.2.at_ (by rw [bcs_length, h.1]; omega)
  have y := num_cell hcell 12 (by omega)
  rw [hx] at y
  have hx8 : x < 256 := by rw [← hx]; exact num_lt' l 12 1 256 (by decide)
  have a1 : decide ((n : Int) ≤ 12) = false := by simp only [decide_eq_false_iff_not]; omega
  have a2 : decide (n ≤ 12) = false := by simp only [decide_eq_false_iff_not]; omega
  have i0 : (12 : Int) < (n : Int) := by omega
  have i1 : 12 < n := by omega
  have ea := u8_and15 x hx8
  obtain ⟨m, hm0⟩ : ∃ m : Nat, x % 16 = m := ⟨_, rfl⟩
  rw [hm0] at ea
  clear hcell
  have n1 : ((m : Int) != 0) = true := by rw [bne_iff_ne]; omega
  clear hm0 hm1 hx hm hn
  go_enter Try.func53, Try.ntmps53
  go_wp2
  go_ret2
  exact RetV.mk (Below.refl _ _)
set_option maxHeartbeats 4000000 in
set_option maxRecDepth 100000 in
theorem stamp_2 (A : Option Addr) (n c : Nat) (l : List UInt8) (w : World) (h : Rb w A n c l) (hm : n ≤ 1000000) (x : Nat) (hx : num ((l.drop 12).take 1) = x) (hn : 12 < n) (hm1 : x % 16 = 0) (hz5 : x / 16 < 5 ∨ n < 4 * (x / 16)) : Calls Try.prog 53 #[.slice A n c] w (RetV w (.tuple #[.int .u32 0, .bool false])) := by
  have hc := h.2.1
  have hl := h.1
  obtain ⟨b, off, rfl, hbl, hcell⟩ := h.2.2.at_ (by rw [bcs_length, h.1]; omega)
  have y := num_cell hcell 12 (by omega)
  rw [hx] at y
  have hx8 : x < 256 := by rw [← hx]; exact num_lt' l 12 1 256 (by decide)
  have a1 : decide ((n : Int) ≤ 12) = false := by simp only [decide_eq_false_iff_not]; omega
  have a2 : decide (n ≤ 12) = false := by simp only [decide_eq_false_iff_not]; omega
  have i0 : (12 : Int) < (n : Int) := by omega
  have i1 : 12 < n := by omega
  have ea := u8_and15 x hx8
  obtain ⟨m, hm0⟩ : ∃ m : Nat, x % 16 = m := ⟨_, rfl⟩
  rw [hm0] at ea
  clear hcell
  obtain ⟨q, hq⟩ : ∃ q : Nat, q = x / 16 := ⟨_, rfl⟩
  obtain ⟨z, hz⟩ : ∃ z : Nat, z = 4 * q := ⟨_, rfl⟩
  have e1 : (x : Int) / 16 = (q : Int) := by omega
  have e2 : IntKind.i64.wrap (q : Int) = (q : Int) := IntWalk.i64_in _ (by omega)
  have e3 : IntKind.i64.wrap ((q : Int) * 4) = (z : Int) := by rw [IntWalk.i64_in _ (by omega)]; omega
  obtain rfl : m = 0 := by omega
  by_cases h5 : z < 20
  · have c1 : decide ((z : Int) < 20) = true := by simp only [decide_eq_true_eq]; omega
    have c2 : decide (z < 20) = true := by simp only [decide_eq_true_eq]; omega
    clear hm0 hm1 hx hm hn hz hq hz5 h5
    go_enter Try.func53, Try.ntmps53
    go_wp2
    go_ret2
    exact RetV.mk (Below.refl _ _)
  · have c1 : decide ((z : Int) < 20) = false := by simp only [decide_eq_false_iff_not]; omega
    have c2 : decide (z < 20) = false := by simp only [decide_eq_false_iff_not]; omega
    have c3 : decide ((n : Int) < (z : Int)) = true := by simp only [decide_eq_true_eq]; omega
    have c4 : decide (n < z) = true := by simp only [decide_eq_true_eq]; omega
    clear hm0 hm1 hx hm hn hz hq hz5 h5
    go_enter Try.func53, Try.ntmps53
    go_wp2
    go_ret2
    exact RetV.mk (Below.refl _ _)
set_option maxHeartbeats 4000000 in
set_option maxRecDepth 100000 in
theorem stamp_3 (A : Option Addr) (n c : Nat) (l : List UInt8) (w : World) (h : Rb w A n c l) (hm : n ≤ 1000000) (x : Nat) (hx : num ((l.drop 12).take 1) = x) (hn : 12 < n) (hm1 : x % 16 = 0) (hz5 : 5 ≤ x / 16) (hz6 : 4 * (x / 16) ≤ n) (hS : stampsAt ((l.drop 20).take (4 * (x / 16) - 20)) = none) : Calls Try.prog 53 #[.slice A n c] w (RetV w (.tuple #[.int .u32 0, .bool false])) := by
  have hc := h.2.1
  have hl := h.1
  obtain ⟨b, off, rfl, hbl, hcell⟩ := h.2.2.at_ (by rw [bcs_length, h.1]; omega)
  have y := num_cell hcell 12 (by omega)
  rw [hx] at y
  have hx8 : x < 256 := by rw [← hx]; exact num_lt' l 12 1 256 (by decide)
  have a1 : decide ((n : Int) ≤ 12) = false := by simp only [decide_eq_false_iff_not]; omega
  have a2 : decide (n ≤ 12) = false := by simp only [decide_eq_false_iff_not]; omega
  have i0 : (12 : Int) < (n : Int) := by omega
  have i1 : 12 < n := by omega
  have ea := u8_and15 x hx8
  obtain ⟨m, hm0⟩ : ∃ m : Nat, x % 16 = m := ⟨_, rfl⟩
  rw [hm0] at ea
  clear hcell
  obtain ⟨q, hq⟩ : ∃ q : Nat, q = x / 16 := ⟨_, rfl⟩
  obtain ⟨z, hz⟩ : ∃ z : Nat, z = 4 * q := ⟨_, rfl⟩
  have e1 : (x : Int) / 16 = (q : Int) := by omega
  have e2 : IntKind.i64.wrap (q : Int) = (q : Int) := IntWalk.i64_in _ (by omega)
  have e3 : IntKind.i64.wrap ((q : Int) * 4) = (z : Int) := by rw [IntWalk.i64_in _ (by omega)]; omega
  obtain rfl : m = 0 := by omega
  have c1 : decide ((z : Int) < 20) = false := by simp only [decide_eq_false_iff_not]; omega
  have c2 : decide (z < 20) = false := by simp only [decide_eq_false_iff_not]; omega
  have c3 : decide ((n : Int) < (z : Int)) = false := by simp only [decide_eq_false_iff_not]; omega
  have c4 : decide (n < z) = false := by simp only [decide_eq_false_iff_not]; omega
  have j1 : (20 : Int) ≤ (z : Int) := by omega
  have j2 : (z : Int) ≤ (c : Int) := by omega
  have ho : Rb w (cutA (some ⟨b, off, none⟩) c 20 1) (z - 20) (c - 20) ((l.drop 20).take (z - 20)) := (h.cut (k := 20) (by omega)).take (by omega)
  have hz4 : 4 * (x / 16) = z := by omega
  rw [hz4] at hS
  have HT := Lib.hid (fun w (h : Rb w (cutA (some ⟨b, off, none⟩) c 20 1) (z - 20) (c - 20) ((l.drop 20).take (z - 20))) => (by have := stamps_any _ _ _ _ w h (by omega); rwa [hS] at this : Calls Try.prog 80 #[.slice (cutA (some ⟨b, off, none⟩) c 20 1) (z - 20) (c - 20)] w fun e w' => e = .returned (.tuple #[.int .i64 0, .bool false]) ∧ w = w'))
  generalize (l.drop 20).take (z - 20) = op at *
  clear hm0 hm1 hx hm hn hz hq hz5 hz6 hS hz4
  go_enter Try.func53, Try.ntmps53
  go_wp2_with fail
  refine (HT.out _ ho).mono ?_
  rintro e w1 ⟨rfl, rfl⟩
  go_wp2
  go_ret2
  exact RetV.mk (Below.refl _ _)
set_option maxHeartbeats 4000000 in
set_option maxRecDepth 100000 in
theorem stamp_4 (A : Option Addr) (n c : Nat) (l : List UInt8) (w : World) (h : Rb w A n c l) (hm : n ≤ 1000000) (x at_ v : Nat) (hx : num ((l.drop 12).take 1) = x) (hn : 12 < n) (hm1 : x % 16 = 0) (hz5 : 5 ≤ x / 16) (hz6 : 4 * (x / 16) ≤ n) (hS : stampsAt ((l.drop 20).take (4 * (x / 16) - 20)) = some at_) (hv : num ((((l.drop 20).take (4 * (x / 16) - 20)).drop at_).take 4) = v) : Calls Try.prog 53 #[.slice A n c] w (RetV w (.tuple #[.int .u32 (v : Int), .bool true])) := by
  have hat := stp_found _ _ _ _ hS
  rw [List.length_take, List.length_drop] at hat
  have hc := h.2.1
  have hl := h.1
  obtain ⟨b, off, rfl, hbl, hcell⟩ := h.2.2.at_ (by rw [bcs_length, h.1]; omega)
  have y := num_cell hcell 12 (by omega)
  rw [hx] at y
  have hx8 : x < 256 := by rw [← hx]; exact num_lt' l 12 1 256 (by decide)
  have a1 : decide ((n : Int) ≤ 12) = false := by simp only [decide_eq_false_iff_not]; omega
  have a2 : decide (n ≤ 12) = false := by simp only [decide_eq_false_iff_not]; omega
  have i0 : (12 : Int) < (n : Int) := by omega
  have i1 : 12 < n := by omega
  have ea := u8_and15 x hx8
  obtain ⟨m, hm0⟩ : ∃ m : Nat, x % 16 = m := ⟨_, rfl⟩
  rw [hm0] at ea
  clear hcell
  obtain ⟨q, hq⟩ : ∃ q : Nat, q = x / 16 := ⟨_, rfl⟩
  obtain ⟨z, hz⟩ : ∃ z : Nat, z = 4 * q := ⟨_, rfl⟩
  have e1 : (x : Int) / 16 = (q : Int) := by omega
  have e2 : IntKind.i64.wrap (q : Int) = (q : Int) := IntWalk.i64_in _ (by omega)
  have e3 : IntKind.i64.wrap ((q : Int) * 4) = (z : Int) := by rw [IntWalk.i64_in _ (by omega)]; omega
  obtain rfl : m = 0 := by omega
  have c1 : decide ((z : Int) < 20) = false := by simp only [decide_eq_false_iff_not]; omega
  have c2 : decide (z < 20) = false := by simp only [decide_eq_false_iff_not]; omega
  have c3 : decide ((n : Int) < (z : Int)) = false := by simp only [decide_eq_false_iff_not]; omega
  have c4 : decide (n < z) = false := by simp only [decide_eq_false_iff_not]; omega
  have j1 : (20 : Int) ≤ (z : Int) := by omega
  have j2 : (z : Int) ≤ (c : Int) := by omega
  have ho : Rb w (cutA (some ⟨b, off, none⟩) c 20 1) (z - 20) (c - 20) ((l.drop 20).take (z - 20)) := (h.cut (k := 20) (by omega)).take (by omega)
  have hz4 : 4 * (x / 16) = z := by omega
  rw [hz4] at hS
  have HT := Lib.hid (fun w (h : Rb w (cutA (some ⟨b, off, none⟩) c 20 1) (z - 20) (c - 20) ((l.drop 20).take (z - 20))) => (by have := stamps_any _ _ _ _ w h (by omega); rwa [hS] at this : Calls Try.prog 80 #[.slice (cutA (some ⟨b, off, none⟩) c 20 1) (z - 20) (c - 20)] w fun e w' => e = .returned (.tuple #[.int .i64 (at_ : Int), .bool true]) ∧ w = w'))
  rw [hz4] at hv hat
  have d1 : decide ((at_ : Int) < 0) = false := by simp only [decide_eq_false_iff_not]; omega
  obtain ⟨a4, ha4⟩ : ∃ k : Nat, k = at_ + 4 := ⟨_, rfl⟩
  have e4 : IntKind.i64.wrap ((at_ : Int) + 4) = (a4 : Int) := by rw [IntWalk.i64_in _ (by omega)]; omega
  have d2 : decide (((z - 20 : Nat) : Int) < (a4 : Int)) = false := by simp only [decide_eq_false_iff_not]; omega
  have d3 : decide (z - 20 < a4) = false := by simp only [decide_eq_false_iff_not]; omega
  have k1 : (0 : Int) ≤ (at_ : Int) := by omega
  have k2 : (at_ : Int) ≤ (a4 : Int) := by omega
  have k3 : (a4 : Int) ≤ ((c - 20 : Nat) : Int) := by omega
  have k4 : a4 - at_ = 4 := by omega
  have k5 : at_ ≤ a4 := by omega
  have k6 : a4 ≤ c - 20 := by omega
  generalize (l.drop 20).take (z - 20) = op at *
  have hr4 : Rb w (cutA (cutA (some ⟨b, off, none⟩) c 20 1) (c - 20) at_ 1) 4 (c - 20 - at_) ((op.drop at_).take 4) := (ho.cut (k := at_) (by omega)).take (by omega)
  have hr4l := hr4.1
  have HRD := Lib.hid (fun w (h : Rb w (cutA (cutA (some ⟨b, off, none⟩) c 20 1) (c - 20) at_ 1) 4 (c - 20 - at_) ((op.drop at_).take 4)) => readK _ _ _ _ w h (by decide))
  generalize (op.drop at_).take 4 = ts at *
  have hv2 : Hid (num ((ts.drop 0).take 4) = v) := Lib.hid (by rw [List.drop_zero, List.take_of_length_le (by omega)]; exact hv)
  clear hm0 hm1 hx hm hn hz hq hz5 hz6 hS hz4 ha4 hat hv
  go_enter Try.func53, Try.ntmps53
  go_wp2_with fail
  refine (HT.out _ ho).mono ?_
  rintro e w1 ⟨rfl, rfl⟩
  go_wp2_with fail
  refine (HRD.out _ hr4).mono ?_
  rintro e w1 ⟨r, bs1, d1', rfl, rfl, hr1, hR⟩
  go_wp2_with fail
  refine (longG _ r ts 0 v hR (by omega) (by omega) hv2.out).mono ?_
  rintro e W1 ⟨rfl, hR1, hg1⟩
  go_wp2
  go_ret2
  exact RetV.mk (below_grown (below_plus _ _ _) hg1 hr1)
end Go.Proofs.Ytfmkndemkpecpaa
