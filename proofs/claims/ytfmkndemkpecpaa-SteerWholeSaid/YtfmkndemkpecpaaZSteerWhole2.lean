/- Texts of the law SteerWhole, part 2. -/
import Derived.Test.YtfmkndemkpecpaaZSteerWhole1
/- A flow (chapter 3). -/
namespace Go.Proofs.Ytfmkndemkpecpaa
open Go.RowKit
/-- a flow -/
def flC (s1 : Bool) (h1 l1 : Nat) (s2 : Bool) (h2 l2 : Nat) (sp dp p : Nat) : List Value := [.bool s1, .int .u64 (h1 : Int), .int .u64 (l1 : Int), .bool s2, .int .u64 (h2 : Int), .int .u64 (l2 : Int), .int .u16 (sp : Int), .int .u16 (dp : Int), .int .u8 (p : Int)]
theorem flC_one (s1 : Bool) (h1 l1 : Nat) (s2 : Bool) (h2 l2 : Nat) (sp dp p : Nat) : ∀ u ∈ flC s1 h1 l1 s2 h2 l2 sp dp p, u.oneCell' = true := by
  intro u hu
  simp only [flC, List.mem_cons, List.not_mem_nil, or_false] at hu
  rcases hu with rfl | rfl | rfl | rfl | rfl | rfl | rfl | rfl | rfl <;> rfl
theorem szFl (s1 : Bool) (h1 l1 : Nat) (s2 : Bool) (h2 l2 : Nat) (sp dp p : Nat) : (Try.prog.info? 29).map (·.size) = some (flC s1 h1 l1 s2 h2 l2 sp dp p).length := by kernel_rfl
theorem rowFl : ∃ d, Try.prog.underlying 29 = some d ∧ d.isRow = true := ⟨_, Try.underlying29, rfl⟩
end Go.Proofs.Ytfmkndemkpecpaa

/- Addresses of four bytes; steer.flow, steer.stamp (chapter 29). -/
namespace Go.Proofs.Ytfmkndemkpecpaa
open Go.RowKit
set_option linter.unusedVariables false
set_option linter.unusedSimpArgs false
attribute [local go_sem ↓] sliced_cut

attribute [local go_sem] cutA_zero

set_option maxHeartbeats 4000000 in
set_option maxRecDepth 100000 in
theorem adrOf4 (x : Nat) (l : List UInt8) (A : Option Addr) (c : Nat) (w : World) (h : Rb w A 4 c l) (hx : num l = x) : Calls Try.prog 154 #[.slice A 4 c] w (RetV w (.tuple #[.agg (adC false 0 x).toArray, .int .i64 0])) := by
  obtain ⟨dv, v1, v2⟩ : ∃ d, Try.prog.underlying 26 = some d ∧ d.isRow = true := ⟨_, Try.underlying26, rfl⟩
  have b2 : Bk (w.alloc (.cells #[.bool false, .int .u64 0, .int .u64 0] 26)) w.heap.size 26 (adC false 0 0) := Bk.new w 26 #[.bool false, .int .u64 0, .int .u64 0]
  have be : Below w.heap.size w (w.alloc (.cells #[.bool false, .int .u64 0, .int .u64 0] 26)) := Below.allocS (Below.refl _ _) _
  have hl := h.1
  have HR := Lib.hid (fun W (h : Rb W A 4 c l) => readK A 4 c l W h (by omega))
  have hx2 : Hid (num ((l.drop 0).take 4) = x) := Lib.hid (by rw [List.drop_zero, List.take_of_length_le (by omega)]; exact hx)
  clear hx
  go_enter Try.func154, Try.ntmps154
  go_upto_region 1 with (fail)
  replace h := h.later be
  generalize w.alloc (.cells #[.bool false, .int .u64 0, .int .u64 0] 26) = V at *
  have zb := be.size
  have z2 := b2.lt
  go_wp2_with fail
  refine (HR.out _ h).mono ?_
  rintro e w1 ⟨r, bs1, d1, rfl, rfl, hr1, hR⟩
  replace b2 := b2.later (below_plus _ bs1 d1)
  replace be := belowP be bs1 d1
  have hr2 : w.heap.size < r := by omega
  generalize plus V bs1 d1 = V1 at *
  go_wp2_with fail
  refine (numG V1 r l 0 x 4 (by omega) hR (by omega) (by omega) hx2.out).mono ?_
  rintro e V2 ⟨rfl, hR1, hg1⟩
  replace b2 := b2.grown hg1 (by simp; omega)
  replace be := below_grown be hg1 (by omega)
  clear hg1 hR hR1
  go_wp2_with (refine at_op (.store 26 (.tmp 2) (.tmp 13)) rfl ?_; refine wpList_stA (t := 26) 26 (.tmp 2) (.tmp 13) rfl rfl (adC false 0 x) (adC false 0 0) rfl (adC_one _ _ _) rfl rfl (b2) (szAd _ _ _) ?_; intro W4 h4 g4)
  refine bodyPost_agg2 Try.results154 rfl rfl h4.range v1 v2 (szAd _ _ _) rfl (RetV.mk ?_)
  exact below_grown be g4 (by omega)
set_option maxHeartbeats 4000000 in
set_option maxRecDepth 100000 in
theorem steFlow (A1 : Option Addr) (n1 c1 : Nat) (A2 : Option Addr) (n2 c2 : Nat) (s1 : Bool) (h1 l1 : Nat) (s2 : Bool) (h2 l2 p : Nat) (w : World)
    (H1 : ∀ w', Below w.heap.size w w' → Calls Try.prog 154 #[.slice A1 n1 c1] w' (RetV w' (.tuple #[.agg (adC s1 h1 l1).toArray, .int .i64 0])))
    (H2 : ∀ w', Below w.heap.size w w' → Calls Try.prog 154 #[.slice A2 n2 c2] w' (RetV w' (.tuple #[.agg (adC s2 h2 l2).toArray, .int .i64 0]))) :
    Calls Try.prog 110 #[.slice A1 n1 c1, .slice A2 n2 c2, .int .u8 (p : Int)] w (RetV w (.agg (flC s1 h1 l1 s2 h2 l2 0 0 p).toArray)) := by
  obtain ⟨dv, v1, v2⟩ : ∃ d, Try.prog.underlying 26 = some d ∧ d.isRow = true := ⟨_, Try.underlying26, rfl⟩
  obtain ⟨du, u1, u2⟩ := rowFl
  replace H1 := Lib.hid H1
  replace H2 := Lib.hid H2
  have b6 : Bk (w.alloc (.cells #[.bool false, .int .u64 0, .int .u64 0, .bool false, .int .u64 0, .int .u64 0, .int .u16 0, .int .u16 0, .int .u8 0] 29)) w.heap.size 29 (flC false 0 0 false 0 0 0 0 0) := Bk.new w 29 #[.bool false, .int .u64 0, .int .u64 0, .bool false, .int .u64 0, .int .u64 0, .int .u16 0, .int .u16 0, .int .u8 0]
  have be : Below w.heap.size w (w.alloc (.cells #[.bool false, .int .u64 0, .int .u64 0, .bool false, .int .u64 0, .int .u64 0, .int .u16 0, .int .u16 0, .int .u8 0] 29)) := Below.allocS (Below.refl _ _) _
  go_enter Try.func110, Try.ntmps110
  go_upto_region 1 with (fail)
  generalize w.alloc (.cells #[.bool false, .int .u64 0, .int .u64 0, .bool false, .int .u64 0, .int .u64 0, .int .u16 0, .int .u16 0, .int .u8 0] 29) = V at *
  have zb := be.size
  have z6 := b6.lt
  go_wp2_with fail
  refine (H1.out _ be).mono ?_
  rintro e w1 ⟨bs1, d1, rfl, rfl⟩
  go_upto_region 2 with (refine at_op (.store 26 (.tmp 7) (.tmp 14)) rfl ?_; refine wpList_stA (t := 26) 26 (.tmp 7) (.tmp 14) rfl rfl (adC s1 h1 l1) (adC false 0 0) rfl (adC_one _ _ _) rfl rfl ?_ (szAd _ _ _) ?_; (· refine Bk.newK _ _ _ ?_ rfl; simp [size_plus]); intro W7 hX g7)
  have b7 := below_grown (Below.allocS (below_plus V bs1 d1) _) g7 (by omega)
  replace be := be.trans (b7.mono zb)
  replace b6 := b6.later b7
  clear b7 g7
  have hne : w.heap.size < V.heap.size + bs1.length := by omega
  generalize V.heap.size + bs1.length = g7 at *
  have zX := hX.lt
  have zb := be.size
  go_wp2_with fail
  refine (H2.out _ be).mono ?_
  rintro e w1 ⟨bs2, d2, rfl, rfl⟩
  go_upto_region 3 with (refine at_op (.store 26 (.tmp 9) (.tmp 19)) rfl ?_; refine wpList_stA (t := 26) 26 (.tmp 9) (.tmp 19) rfl rfl (adC s2 h2 l2) (adC false 0 0) rfl (adC_one _ _ _) rfl rfl ?_ (szAd _ _ _) ?_; (· refine Bk.newK _ _ _ ?_ rfl; simp [size_plus]); intro W9 hY g9)
  have b9 := below_grown (Below.allocS (below_plus W7 bs2 d2) _) g9 (by omega)
  replace be := be.trans (b9.mono zb)
  replace b6 := b6.later b9
  replace hX := hX.later b9
  clear b9 g9
  generalize W7.heap.size + bs2.length = g9 at *
  unfold adC at hX hY
  go_wp2_with (first
    | (refine at_op (.load 26 (.tmp 7)) rfl ?_; refine wpList_ldA (t := 26) 26 (.tmp 7) rfl rfl ([.bool s1, .int .u64 (h1 : Int), .int .u64 (l1 : Int)]) rfl (hX) (whole_ _) v1 v2 (szAd s1 h1 l1) ?_)
    | (refine at_op (.load 26 (.tmp 9)) rfl ?_; refine wpList_ldA (t := 26) 26 (.tmp 9) rfl rfl ([.bool s2, .int .u64 (h2 : Int), .int .u64 (l2 : Int)]) rfl (hY) (whole_ _) v1 v2 (szAd s2 h2 l2) ?_)
    | (refine at_op (.store 29 (.tmp 6) (.tmp 24)) rfl ?_; refine wpList_stA (t := 29) 29 (.tmp 6) (.tmp 24) rfl rfl (flC s1 h1 l1 s2 h2 l2 0 0 p) (flC false 0 0 false 0 0 0 0 0) rfl (flC_one _ _ _ _ _ _ _ _ _) rfl rfl b6 (szFl _ _ _ _ _ _ _ _ _) ?_; intro W4 h4 g4))
  refine bodyPost_agg Try.results110 rfl h4.range u1 u2 (szFl _ _ _ _ _ _ _ _ _) rfl (RetV.mk ?_)
  exact below_grown be g4 (by omega)
theorem stamp_0 (A : Option Addr) (n c : Nat) (l : List UInt8) (w : World) (h : Rb w A n c l) (hm : n ≤ 1000000) (hn : n ≤ 12) : Calls Try.prog 53 #[.slice A n c] w (RetV w (.tuple #[.int .u32 0, .bool false])) := by
  have a1 : decide ((n : Int) ≤ 12) = true := by simp only [decide_eq_true_eq]; omega
  have a2 : decide (n ≤ 12) = true := by simp only [decide_eq_true_eq]; omega
  clear hn hm
  go_enter Try.func53, Try.ntmps53
  go_wp2
  go_ret2
  exact RetV.mk (Below.refl _ _)
set_option maxHeartbeats 4000000 in
set_option maxRecDepth 100000 in
theorem stamp_1 (A : Option Addr) (n c : Nat) (l : List UInt8) (w : World) (h : Rb w A n c l) (hm : n ≤ 1000000) (x : Nat) (hx : num ((l.drop 12).take 1) = x) (hn : 12 < n) (hm1 : x % 16 ≠ 0) : Calls Try.prog 53 #[.slice A n c] w (RetV w (.tuple #[.int .u32 0, .bool false])) := by
  have hc := h.2.1
  have hl := h.1
  obtain ⟨b, off, rfl, hbl, hcell⟩ := h.2.2.at_ (by rw [bcs_length, h.1]; omega)
  have y := num_cell hcell 12 (by omega)
  rw [hx] at y
  have hx8 : x < 256 := by rw [← hx]; exact num_lt' l 12 1 256 (by decide)
  have a1 : decide ((n : Int) ≤ 12) = false := by simp only [decide_eq_false_iff_not]; omega
  have a2 : decide (n ≤ 12) = false := by simp only [decide_eq_false_iff_not]; omega
  have i0 : (12 : Int) < (n : Int) := by omega
  have i1 : 12 < n := by omega
  have ea := u8_and15 x hx8
  obtain ⟨m, hm0⟩ : ∃ m : Nat, x % 16 = m := ⟨_, rfl⟩
  rw [hm0] at ea
  clear hcell
  have n1 : ((m : Int) != 0) = true := by rw [bne_iff_ne]; omega
  clear hm0 hm1 hx hm hn
  go_enter Try.func53, Try.ntmps53
  go_wp2
  go_ret2
  exact RetV.mk (Below.refl _ _)
set_option maxHeartbeats 4000000 in
set_option maxRecDepth 100000 in
theorem stamp_2 (A : Option Addr) (n c : Nat) (l : List UInt8) (w : World) (h : Rb w A n c l) (hm : n ≤ 1000000) (x : Nat) (hx : num ((l.drop 12).take 1) = x) (hn : 12 < n) (hm1 : x % 16 = 0) (hz5 : x / 16 < 5 ∨ n < 4 * (x / 16)) : Calls Try.prog 53 #[.slice A n c] w (RetV w (.tuple #[.int .u32 0, .bool false])) := by
  have hc := h.2.1
  have hl := h.1
  obtain ⟨b, off, rfl, hbl, hcell⟩ := h.2.2.at_ (by rw [bcs_length, h.1]; omega)
  have y := num_cell hcell 12 (by omega)
  rw [hx] at y
  have hx8 : x < 256 := by rw [← hx]; exact num_lt' l 12 1 256 (by decide)
  have a1 : decide ((n : Int) ≤ 12) = false := by simp only [decide_eq_false_iff_not]; omega
  have a2 : decide (n ≤ 12) = false := by simp only [decide_eq_false_iff_not]; omega
  have i0 : (12 : Int) < (n : Int) := by omega
  have i1 : 12 < n := by omega
  have ea := u8_and15 x hx8
  obtain ⟨m, hm0⟩ : ∃ m : Nat, x % 16 = m := ⟨_, rfl⟩
  rw [hm0] at ea
  clear hcell
  obtain ⟨q, hq⟩ : ∃ q : Nat, q = x / 16 := ⟨_, rfl⟩
  obtain ⟨z, hz⟩ : ∃ z : Nat, z = 4 * q := ⟨_, rfl⟩
  have e1 : (x : Int) / 16 = (q : Int) := by omega
  have e2 : IntKind.i64.wrap (q : Int) = (q : Int) := IntWalk.i64_in _ (by omega)
  have e3 : IntKind.i64.wrap ((q : Int) * 4) = (z : Int) := by rw [IntWalk.i64_in _ (by omega)]; omega
  obtain rfl : m = 0 := by omega
  by_cases h5 : z < 20
  · have c1 : decide ((z : Int) < 20) = true := by simp only [decide_eq_true_eq]; omega
    have c2 : decide (z < 20) = true := by simp only [decide_eq_true_eq]; omega
    clear hm0 hm1 hx hm hn hz hq hz5 h5
    go_enter Try.func53, Try.ntmps53
    go_wp2
    go_ret2
    exact RetV.mk (Below.refl _ _)
  · have c1 : decide ((z : Int) < 20) = false := by simp only [decide_eq_false_iff_not]; omega
    have c2 : decide (z < 20) = false := by simp only [decide_eq_false_iff_not]; omega
    have c3 : decide ((n : Int) < (z : Int)) = true := by simp only [decide_eq_true_eq]; omega
    have c4 : decide (n < z) = true := by simp only [decide_eq_true_eq]; omega
    clear hm0 hm1 hx hm hn hz hq hz5 h5
    go_enter Try.func53, Try.ntmps53
    go_wp2
    go_ret2
    exact RetV.mk (Below.refl _ _)
set_option maxHeartbeats 4000000 in
set_option maxRecDepth 100000 in
theorem stamp_3 (A : Option Addr) (n c : Nat) (l : List UInt8) (w : World) (h : Rb w A n c l) (hm : n ≤ 1000000) (x : Nat) (hx : num ((l.drop 12).take 1) = x) (hn : 12 < n) (hm1 : x % 16 = 0) (hz5 : 5 ≤ x / 16) (hz6 : 4 * (x / 16) ≤ n) (hS : stampsAt ((l.drop 20).take (4 * (x / 16) - 20)) = none) : Calls Try.prog 53 #[.slice A n c] w (RetV w (.tuple #[.int .u32 0, .bool false])) := by
  have hc := h.2.1
  have hl := h.1
  obtain ⟨b, off, rfl, hbl, hcell⟩ := h.2.2.at_ (by rw [bcs_length, h.1]; omega)
  have y := num_cell hcell 12 (by omega)
  rw [hx] at y
  have hx8 : x < 256 := by rw [← hx]; exact num_lt' l 12 1 256 (by decide)
  have a1 : decide ((n : Int) ≤ 12) = false := by simp only [decide_eq_false_iff_not]; omega
  have a2 : decide (n ≤ 12) = false := by simp only [decide_eq_false_iff_not]; omega
  have i0 : (12 : Int) < (n : Int) := by omega
  have i1 : 12 < n := by omega
  have ea := u8_and15 x hx8
  obtain ⟨m, hm0⟩ : ∃ m : Nat, x % 16 = m := ⟨_, rfl⟩
  rw [hm0] at ea
  clear hcell
  obtain ⟨q, hq⟩ : ∃ q : Nat, q = x / 16 := ⟨_, rfl⟩
  obtain ⟨z, hz⟩ : ∃ z : Nat, z = 4 * q := ⟨_, rfl⟩
  have e1 : (x : Int) / 16 = (q : Int) := by omega
  have e2 : IntKind.i64.wrap (q : Int) = (q : Int) := IntWalk.i64_in _ (by omega)
  have e3 : IntKind.i64.wrap ((q : Int) * 4) = (z : Int) := by rw [IntWalk.i64_in _ (by omega)]; omega
  obtain rfl : m = 0 := by omega
  have c1 : decide ((z : Int) < 20) = false := by simp only [decide_eq_false_iff_not]; omega
  have c2 : decide (z < 20) = false := by simp only [decide_eq_false_iff_not]; omega
  have c3 : decide ((n : Int) < (z : Int)) = false := by simp only [decide_eq_false_iff_not]; omega
  have c4 : decide (n < z) = false := by simp only [decide_eq_false_iff_not]; omega
  have j1 : (20 : Int) ≤ (z : Int) := by omega
  have j2 : (z : Int) ≤ (c : Int) := by omega
  have ho : Rb w (cutA (some ⟨b, off, none⟩) c 20 1) (z - 20) (c - 20) ((l.drop 20).take (z - 20)) := (h.cut (k := 20) (by omega)).take (by omega)
  have hz4 : 4 * (x / 16) = z := by omega
  rw [hz4] at hS
  have HT := Lib.hid (fun w (h : Rb w (cutA (some ⟨b, off, none⟩) c 20 1) (z - 20) (c - 20) ((l.drop 20).take (z - 20))) => (by have := stamps_any _ _ _ _ w h (by omega); rwa [hS] at this : Calls Try.prog 80 #[.slice (cutA (some ⟨b, off, none⟩) c 20 1) (z - 20) (c - 20)] w fun e w' => e = .returned (.tuple #[.int .i64 0, .bool false]) ∧ w = w'))
  generalize (l.drop 20).take (z - 20) = op at *
  clear hm0 hm1 hx hm hn hz hq hz5 hz6 hS hz4
  go_enter Try.func53, Try.ntmps53
  go_wp2_with fail
  refine (HT.out _ ho).mono ?_
  rintro e w1 ⟨rfl, rfl⟩
  go_wp2
  go_ret2
  exact RetV.mk (Below.refl _ _)
set_option maxHeartbeats 4000000 in
set_option maxRecDepth 100000 in
theorem stamp_4 (A : Option Addr) (n c : Nat) (l : List UInt8) (w : World) (h : Rb w A n c l) (hm : n ≤ 1000000) (x at_ v : Nat) (hx : num ((l.drop 12).take 1) = x) (hn : 12 < n) (hm1 : x % 16 = 0) (hz5 : 5 ≤ x / 16) (hz6 : 4 * (x / 16) ≤ n) (hS : stampsAt ((l.drop 20).take (4 * (x / 16) - 20)) = some at_) (hv : num ((((l.drop 20).take (4 * (x / 16) - 20)).drop at_).take 4) = v) : Calls Try.prog 53 #[.slice A n c] w (RetV w (.tuple #[.int .u32 (v : Int), .bool true])) := by
  have hat := stp_found _ _ _ _ hS
  rw [List.length_take, List.length_drop] at hat
  have hc := h.2.1
  have hl := h.1
  obtain ⟨b, off, rfl, hbl, hcell⟩ := h.2.2.at_ (by rw [bcs_length, h.1]; omega)
  have y := num_cell hcell 12 (by omega)
  rw [hx] at y
  have hx8 : x < 256 := by rw [← hx]; exact num_lt' l 12 1 256 (by decide)
  have a1 : decide ((n : Int) ≤ 12) = false := by simp only [decide_eq_false_iff_not]; omega
  have a2 : decide (n ≤ 12) = false := by simp only [decide_eq_false_iff_not]; omega
  have i0 : (12 : Int) < (n : Int) := by omega
  have i1 : 12 < n := by omega
  have ea := u8_and15 x hx8
  obtain ⟨m, hm0⟩ : ∃ m : Nat, x % 16 = m := ⟨_, rfl⟩
  rw [hm0] at ea
  clear hcell
  obtain ⟨q, hq⟩ : ∃ q : Nat, q = x / 16 := ⟨_, rfl⟩
  obtain ⟨z, hz⟩ : ∃ z : Nat, z = 4 * q := ⟨_, rfl⟩
  have e1 : (x : Int) / 16 = (q : Int) := by omega
  have e2 : IntKind.i64.wrap (q : Int) = (q : Int) := IntWalk.i64_in _ (by omega)
  have e3 : IntKind.i64.wrap ((q : Int) * 4) = (z : Int) := by rw [IntWalk.i64_in _ (by omega)]; omega
  obtain rfl : m = 0 := by omega
  have c1 : decide ((z : Int) < 20) = false := by simp only [decide_eq_false_iff_not]; omega
  have c2 : decide (z < 20) = false := by simp only [decide_eq_false_iff_not]; omega
  have c3 : decide ((n : Int) < (z : Int)) = false := by simp only [decide_eq_false_iff_not]; omega
  have c4 : decide (n < z) = false := by simp only [decide_eq_false_iff_not]; omega
  have j1 : (20 : Int) ≤ (z : Int) := by omega
  have j2 : (z : Int) ≤ (c : Int) := by omega
  have ho : Rb w (cutA (some ⟨b, off, none⟩) c 20 1) (z - 20) (c - 20) ((l.drop 20).take (z - 20)) := (h.cut (k := 20) (by omega)).take (by omega)
  have hz4 : 4 * (x / 16) = z := by omega
  rw [hz4] at hS
  have HT := Lib.hid (fun w (h : Rb w (cutA (some ⟨b, off, none⟩) c 20 1) (z - 20) (c - 20) ((l.drop 20).take (z - 20))) => (by have := stamps_any _ _ _ _ w h (by omega); rwa [hS] at this : Calls Try.prog 80 #[.slice (cutA (some ⟨b, off, none⟩) c 20 1) (z - 20) (c - 20)] w fun e w' => e = .returned (.tuple #[.int .i64 (at_ : Int), .bool true]) ∧ w = w'))
  rw [hz4] at hv hat
  have d1 : decide ((at_ : Int) < 0) = false := by simp only [decide_eq_false_iff_not]; omega
  obtain ⟨a4, ha4⟩ : ∃ k : Nat, k = at_ + 4 := ⟨_, rfl⟩
  have e4 : IntKind.i64.wrap ((at_ : Int) + 4) = (a4 : Int) := by rw [IntWalk.i64_in _ (by omega)]; omega
  have d2 : decide (((z - 20 : Nat) : Int) < (a4 : Int)) = false := by simp only [decide_eq_false_iff_not]; omega
  have d3 : decide (z - 20 < a4) = false := by simp only [decide_eq_false_iff_not]; omega
  have k1 : (0 : Int) ≤ (at_ : Int) := by omega
  have k2 : (at_ : Int) ≤ (a4 : Int) := by omega
  have k3 : (a4 : Int) ≤ ((c - 20 : Nat) : Int) := by omega
  have k4 : a4 - at_ = 4 := by omega
  have k5 : at_ ≤ a4 := by omega
  have k6 : a4 ≤ c - 20 := by omega
  generalize (l.drop 20).take (z - 20) = op at *
  have hr4 : Rb w (cutA (cutA (some ⟨b, off, none⟩) c 20 1) (c - 20) at_ 1) 4 (c - 20 - at_) ((op.drop at_).take 4) := (ho.cut (k := at_) (by omega)).take (by omega)
  have hr4l := hr4.1
  have HRD := Lib.hid (fun w (h : Rb w (cutA (cutA (some ⟨b, off, none⟩) c 20 1) (c - 20) at_ 1) 4 (c - 20 - at_) ((op.drop at_).take 4)) => readK _ _ _ _ w h (by decide))
  generalize (op.drop at_).take 4 = ts at *
  have hv2 : Hid (num ((ts.drop 0).take 4) = v) := Lib.hid (by rw [List.drop_zero, List.take_of_length_le (by omega)]; exact hv)
  clear hm0 hm1 hx hm hn hz hq hz5 hz6 hS hz4 ha4 hat hv
  go_enter Try.func53, Try.ntmps53
  go_wp2_with fail
  refine (HT.out _ ho).mono ?_
  rintro e w1 ⟨rfl, rfl⟩
  go_wp2_with fail
  refine (HRD.out _ hr4).mono ?_
  rintro e w1 ⟨r, bs1, d1', rfl, rfl, hr1, hR⟩
  go_wp2_with fail
  refine (longG _ r ts 0 v hR (by omega) (by omega) hv2.out).mono ?_
  rintro e W1 ⟨rfl, hR1, hg1⟩
  go_wp2
  go_ret2
  exact RetV.mk (below_grown (below_plus _ _ _) hg1 hr1)
end Go.Proofs.Ytfmkndemkpecpaa

/- steer.open4, steer.open6 (chapter 29). -/
namespace Go.Proofs.Ytfmkndemkpecpaa
open Go.RowKit
set_option linter.unusedVariables false
set_option linter.unusedSimpArgs false
attribute [local go_sem ↓] sliced_cut

attribute [local go_sem] cutA_zero

theorem and16383 (x : Nat) (h : x < 65536) : bits .and .u16 (x : Int) 16383 = ((x % 16384 : Nat) : Int) := by
  have := u16_and_nat x 16383 h (by decide)
  rw [show (16383 : Nat) = 2 ^ 14 - 1 from rfl, Nat.and_two_pow_sub_one_eq_mod] at this
  exact this
set_option maxHeartbeats 4000000 in
set_option maxRecDepth 100000 in
theorem open4_0 (A : Option Addr) (n c : Nat) (l : List UInt8) (w : World) (h : Rb w A n c l) (hm : n ≤ 1000000) (hn : n < 20) : Calls Try.prog 49 #[.slice A n c] w (RetV w (.tuple #[.agg (flC false 0 0 false 0 0 0 0 0).toArray, .slice none 0 0, .bool false])) := by
  have a1 : decide ((n : Int) < 20) = true := by simp only [decide_eq_true_eq]; omega
  have a2 : decide (n < 20) = true := by simp only [decide_eq_true_eq]; omega
  obtain ⟨du, u1, u2⟩ := rowFl
  have b2 : Bk (w.alloc (.cells #[.bool false, .int .u64 0, .int .u64 0, .bool false, .int .u64 0, .int .u64 0, .int .u16 0, .int .u16 0, .int .u8 0] 29)) w.heap.size 29 (flC false 0 0 false 0 0 0 0 0) := Bk.new w 29 #[.bool false, .int .u64 0, .int .u64 0, .bool false, .int .u64 0, .int .u64 0, .int .u16 0, .int .u16 0, .int .u8 0]
  have be : Below w.heap.size w (w.alloc (.cells #[.bool false, .int .u64 0, .int .u64 0, .bool false, .int .u64 0, .int .u64 0, .int .u16 0, .int .u16 0, .int .u8 0] 29)) := Below.allocS (Below.refl _ _) _
  clear hn hm
  go_enter Try.func49, Try.ntmps49
  go_upto_region 1 with (fail)
  generalize w.alloc (.cells #[.bool false, .int .u64 0, .int .u64 0, .bool false, .int .u64 0, .int .u64 0, .int .u16 0, .int .u16 0, .int .u8 0] 29) = V at *
  go_wp2_with (refine at_op (.store 29 (.tmp 2) (.tmp 16)) rfl ?_; refine wpList_stA (t := 29) 29 (.tmp 2) (.tmp 16) rfl rfl (flC false 0 0 false 0 0 0 0 0) (flC false 0 0 false 0 0 0 0 0) rfl (flC_one _ _ _ _ _ _ _ _ _) rfl rfl b2 (szFl _ _ _ _ _ _ _ _ _) ?_; intro W9 h9 g9)
  refine bodyPost_agg3 Try.results49 rfl rfl rfl h9.range u1 u2 (szFl _ _ _ _ _ _ _ _ _) rfl (RetV.mk ?_)
  exact below_grown be g9 (by omega)
set_option maxHeartbeats 4000000 in
set_option maxRecDepth 100000 in
theorem open4_1 (A : Option Addr) (n c : Nat) (l : List UInt8) (w : World) (h : Rb w A n c l) (hm : n ≤ 1000000) (x : Nat) (hx : num ((l.drop 0).take 1) = x) (hn : 20 ≤ n) (hv : x / 16 ≠ 4) : Calls Try.prog 49 #[.slice A n c] w (RetV w (.tuple #[.agg (flC false 0 0 false 0 0 0 0 0).toArray, .slice none 0 0, .bool false])) := by
  have hc := h.2.1
  have hl := h.1
  obtain ⟨b, off, rfl, hbl, hcell⟩ := h.2.2.at_ (by rw [bcs_length, h.1]; omega)
  have y0 := num_cell hcell 0 (by omega)
  rw [hx, Nat.add_zero] at y0
  have hx8 : x < 256 := by rw [← hx]; exact num_lt' l 0 1 256 (by decide)
  have a1 : decide ((n : Int) < 20) = false := by simp only [decide_eq_false_iff_not]; omega
  have a2 : decide (n < 20) = false := by simp only [decide_eq_false_iff_not]; omega
  have i0 : (0 : Int) < (n : Int) := by omega
  have i1 : 0 < n := by omega
  obtain ⟨q, hq⟩ : ∃ q : Nat, q = x / 16 := ⟨_, rfl⟩
  have e1 : (x : Int) / 16 = (q : Int) := by omega
  have n1 : ((q : Int) != 4) = true := by rw [bne_iff_ne]; omega
  obtain ⟨du, u1, u2⟩ := rowFl
  have b2 : Bk (w.alloc (.cells #[.bool false, .int .u64 0, .int .u64 0, .bool false, .int .u64 0, .int .u64 0, .int .u16 0, .int .u16 0, .int .u8 0] 29)) w.heap.size 29 (flC false 0 0 false 0 0 0 0 0) := Bk.new w 29 #[.bool false, .int .u64 0, .int .u64 0, .bool false, .int .u64 0, .int .u64 0, .int .u16 0, .int .u16 0, .int .u8 0]
  have be : Below w.heap.size w (w.alloc (.cells #[.bool false, .int .u64 0, .int .u64 0, .bool false, .int .u64 0, .int .u64 0, .int .u16 0, .int .u16 0, .int .u8 0] 29)) := Below.allocS (Below.refl _ _) _
  clear hv hx hn hm hcell hq
  go_enter Try.func49, Try.ntmps49
  go_upto_region 1 with (fail)
  have yV := be.cell (p := ⟨b, off, none⟩) hbl
  rw [y0] at yV
  have zV := be.size
  generalize w.alloc (.cells #[.bool false, .int .u64 0, .int .u64 0, .bool false, .int .u64 0, .int .u64 0, .int .u16 0, .int .u16 0, .int .u8 0] 29) = V at *
  have zb : b < V.heap.size := by omega
  go_wp2_with (refine at_op (.store 29 (.tmp 2) (.tmp 16)) rfl ?_; refine wpList_stA (t := 29) 29 (.tmp 2) (.tmp 16) rfl rfl (flC false 0 0 false 0 0 0 0 0) (flC false 0 0 false 0 0 0 0 0) rfl (flC_one _ _ _ _ _ _ _ _ _) rfl rfl b2 (szFl _ _ _ _ _ _ _ _ _) ?_; intro W9 h9 g9)
  refine bodyPost_agg3 Try.results49 rfl rfl rfl h9.range u1 u2 (szFl _ _ _ _ _ _ _ _ _) rfl (RetV.mk ?_)
  exact below_grown be g9 (by omega)
set_option maxHeartbeats 4000000 in
set_option maxRecDepth 100000 in
theorem open6_0 (A : Option Addr) (n c : Nat) (l : List UInt8) (w : World) (h : Rb w A n c l) (hm : n ≤ 1000000) (hn : n < 48) : Calls Try.prog 50 #[.slice A n c] w (RetV w (.tuple #[.agg (flC false 0 0 false 0 0 0 0 0).toArray, .slice none 0 0, .bool false])) := by
  have a1 : decide ((n : Int) < 48) = true := by simp only [decide_eq_true_eq]; omega
  have a2 : decide (n < 48) = true := by simp only [decide_eq_true_eq]; omega
  obtain ⟨du, u1, u2⟩ := rowFl
  have b2 : Bk (w.alloc (.cells #[.bool false, .int .u64 0, .int .u64 0, .bool false, .int .u64 0, .int .u64 0, .int .u16 0, .int .u16 0, .int .u8 0] 29)) w.heap.size 29 (flC false 0 0 false 0 0 0 0 0) := Bk.new w 29 #[.bool false, .int .u64 0, .int .u64 0, .bool false, .int .u64 0, .int .u64 0, .int .u16 0, .int .u16 0, .int .u8 0]
  have be : Below w.heap.size w (w.alloc (.cells #[.bool false, .int .u64 0, .int .u64 0, .bool false, .int .u64 0, .int .u64 0, .int .u16 0, .int .u16 0, .int .u8 0] 29)) := Below.allocS (Below.refl _ _) _
  clear hn hm
  go_enter Try.func50, Try.ntmps50
  go_upto_region 1 with (fail)
  generalize w.alloc (.cells #[.bool false, .int .u64 0, .int .u64 0, .bool false, .int .u64 0, .int .u64 0, .int .u16 0, .int .u16 0, .int .u8 0] 29) = V at *
  go_wp2_with (refine at_op (.store 29 (.tmp 2) (.tmp 15)) rfl ?_; refine wpList_stA (t := 29) 29 (.tmp 2) (.tmp 15) rfl rfl (flC false 0 0 false 0 0 0 0 0) (flC false 0 0 false 0 0 0 0 0) rfl (flC_one _ _ _ _ _ _ _ _ _) rfl rfl b2 (szFl _ _ _ _ _ _ _ _ _) ?_; intro W9 h9 g9)
  refine bodyPost_agg3 Try.results50 rfl rfl rfl h9.range u1 u2 (szFl _ _ _ _ _ _ _ _ _) rfl (RetV.mk ?_)
  exact below_grown be g9 (by omega)
set_option maxHeartbeats 4000000 in
set_option maxRecDepth 100000 in
theorem open6_1 (A : Option Addr) (n c : Nat) (l : List UInt8) (w : World) (h : Rb w A n c l) (hm : n ≤ 1000000) (x : Nat) (hx : num ((l.drop 0).take 1) = x) (hn : 48 ≤ n) (hv : x / 16 ≠ 6) : Calls Try.prog 50 #[.slice A n c] w (RetV w (.tuple #[.agg (flC false 0 0 false 0 0 0 0 0).toArray, .slice none 0 0, .bool false])) := by
  have hc := h.2.1
  have hl := h.1
  obtain ⟨b, off, rfl, hbl, hcell⟩ := h.2.2.at_ (by rw [bcs_length, h.1]; omega)
  have y0 := num_cell hcell 0 (by omega)
  rw [hx, Nat.add_zero] at y0
  have hx8 : x < 256 := by rw [← hx]; exact num_lt' l 0 1 256 (by decide)
  have a1 : decide ((n : Int) < 48) = false := by simp only [decide_eq_false_iff_not]; omega
  have a2 : decide (n < 48) = false := by simp only [decide_eq_false_iff_not]; omega
  have i0 : (0 : Int) < (n : Int) := by omega
  have i1 : 0 < n := by omega
  obtain ⟨q, hq⟩ : ∃ q : Nat, q = x / 16 := ⟨_, rfl⟩
  have e1 : (x : Int) / 16 = (q : Int) := by omega
  have n1 : ((q : Int) != 6) = true := by rw [bne_iff_ne]; omega
  obtain ⟨du, u1, u2⟩ := rowFl
  have b2 : Bk (w.alloc (.cells #[.bool false, .int .u64 0, .int .u64 0, .bool false, .int .u64 0, .int .u64 0, .int .u16 0, .int .u16 0, .int .u8 0] 29)) w.heap.size 29 (flC false 0 0 false 0 0 0 0 0) := Bk.new w 29 #[.bool false, .int .u64 0, .int .u64 0, .bool false, .int .u64 0, .int .u64 0, .int .u16 0, .int .u16 0, .int .u8 0]
  have be : Below w.heap.size w (w.alloc (.cells #[.bool false, .int .u64 0, .int .u64 0, .bool false, .int .u64 0, .int .u64 0, .int .u16 0, .int .u16 0, .int .u8 0] 29)) := Below.allocS (Below.refl _ _) _
  clear hv hx hn hm hcell hq
  go_enter Try.func50, Try.ntmps50
  go_upto_region 1 with (fail)
  have yV := be.cell (p := ⟨b, off, none⟩) hbl
  rw [y0] at yV
  have zV := be.size
  generalize w.alloc (.cells #[.bool false, .int .u64 0, .int .u64 0, .bool false, .int .u64 0, .int .u64 0, .int .u16 0, .int .u16 0, .int .u8 0] 29) = V at *
  have zb : b < V.heap.size := by omega
  go_wp2_with (refine at_op (.store 29 (.tmp 2) (.tmp 15)) rfl ?_; refine wpList_stA (t := 29) 29 (.tmp 2) (.tmp 15) rfl rfl (flC false 0 0 false 0 0 0 0 0) (flC false 0 0 false 0 0 0 0 0) rfl (flC_one _ _ _ _ _ _ _ _ _) rfl rfl b2 (szFl _ _ _ _ _ _ _ _ _) ?_; intro W9 h9 g9)
  refine bodyPost_agg3 Try.results50 rfl rfl rfl h9.range u1 u2 (szFl _ _ _ _ _ _ _ _ _) rfl (RetV.mk ?_)
  exact below_grown be g9 (by omega)
set_option maxHeartbeats 4000000 in
set_option maxRecDepth 100000 in
theorem open4_2 (A : Option Addr) (n c : Nat) (l : List UInt8) (w : World) (h : Rb w A n c l) (hm : n ≤ 1000000) (x : Nat) (hx : num ((l.drop 0).take 1) = x) (hn : 20 ≤ n) (hv : x / 16 = 4) (hs : 4 * (x % 16) < 20 ∨ n < 4 * (x % 16) + 8) : Calls Try.prog 49 #[.slice A n c] w (RetV w (.tuple #[.agg (flC false 0 0 false 0 0 0 0 0).toArray, .slice none 0 0, .bool false])) := by
  have hc := h.2.1
  have hl := h.1
  obtain ⟨b, off, rfl, hbl, hcell⟩ := h.2.2.at_ (by rw [bcs_length, h.1]; omega)
  have y0 := num_cell hcell 0 (by omega)
  rw [hx, Nat.add_zero] at y0
  have hx8 : x < 256 := by rw [← hx]; exact num_lt' l 0 1 256 (by decide)
  have a1 : decide ((n : Int) < 20) = false := by simp only [decide_eq_false_iff_not]; omega
  have a2 : decide (n < 20) = false := by simp only [decide_eq_false_iff_not]; omega
  have i0 : (0 : Int) < (n : Int) := by omega
  have i1 : 0 < n := by omega
  obtain ⟨q, hq⟩ : ∃ q : Nat, q = x / 16 := ⟨_, rfl⟩
  have e1 : (x : Int) / 16 = (q : Int) := by omega
  obtain rfl : q = 4 := by omega
  obtain ⟨m, hm0⟩ : ∃ m : Nat, x % 16 = m := ⟨_, rfl⟩
  have ea := u8_and15 x hx8
  rw [hm0] at ea
  obtain ⟨z, hz⟩ : ∃ z : Nat, z = 4 * m := ⟨_, rfl⟩
  have e2 : IntKind.i64.wrap (m : Int) = (m : Int) := IntWalk.i64_in _ (by omega)
  have e3 : IntKind.i64.wrap ((m : Int) * 4) = (z : Int) := by rw [IntWalk.i64_in _ (by omega)]; omega
  obtain ⟨z8, hz8⟩ : ∃ k : Nat, k = z + 8 := ⟨_, rfl⟩
  have e4 : IntKind.i64.wrap ((z : Int) + 8) = (z8 : Int) := by rw [IntWalk.i64_in _ (by omega)]; omega
  by_cases h5 : z < 20
  · have c1 : decide ((z : Int) < 20) = true := by simp only [decide_eq_true_eq]; omega
    have c2 : decide (z < 20) = true := by simp only [decide_eq_true_eq]; omega
    obtain ⟨du, u1, u2⟩ := rowFl
    have b2 : Bk (w.alloc (.cells #[.bool false, .int .u64 0, .int .u64 0, .bool false, .int .u64 0, .int .u64 0, .int .u16 0, .int .u16 0, .int .u8 0] 29)) w.heap.size 29 (flC false 0 0 false 0 0 0 0 0) := Bk.new w 29 #[.bool false, .int .u64 0, .int .u64 0, .bool false, .int .u64 0, .int .u64 0, .int .u16 0, .int .u16 0, .int .u8 0]
    have be : Below w.heap.size w (w.alloc (.cells #[.bool false, .int .u64 0, .int .u64 0, .bool false, .int .u64 0, .int .u64 0, .int .u16 0, .int .u16 0, .int .u8 0] 29)) := Below.allocS (Below.refl _ _) _
    clear hv hx hn hm hcell hs h5 hz hm0 hz8 hq
    go_enter Try.func49, Try.ntmps49
    go_upto_region 1 with (fail)
    have yV := be.cell (p := ⟨b, off, none⟩) hbl
    rw [y0] at yV
    have zV := be.size
    generalize w.alloc (.cells #[.bool false, .int .u64 0, .int .u64 0, .bool false, .int .u64 0, .int .u64 0, .int .u16 0, .int .u16 0, .int .u8 0] 29) = V at *
    have zb : b < V.heap.size := by omega
    go_wp2_with (refine at_op (.store 29 (.tmp 2) (.tmp 32)) rfl ?_; refine wpList_stA (t := 29) 29 (.tmp 2) (.tmp 32) rfl rfl (flC false 0 0 false 0 0 0 0 0) (flC false 0 0 false 0 0 0 0 0) rfl (flC_one _ _ _ _ _ _ _ _ _) rfl rfl b2 (szFl _ _ _ _ _ _ _ _ _) ?_; intro W9 h9 g9)
    refine bodyPost_agg3 Try.results49 rfl rfl rfl h9.range u1 u2 (szFl _ _ _ _ _ _ _ _ _) rfl (RetV.mk ?_)
    exact below_grown be g9 (by omega)
  · have c1 : decide ((z : Int) < 20) = false := by simp only [decide_eq_false_iff_not]; omega
    have c2 : decide (z < 20) = false := by simp only [decide_eq_false_iff_not]; omega
    have c3 : decide ((n : Int) < (z8 : Int)) = true := by simp only [decide_eq_true_eq]; omega
    have c4 : decide (n < z8) = true := by simp only [decide_eq_true_eq]; omega
    obtain ⟨du, u1, u2⟩ := rowFl
    have b2 : Bk (w.alloc (.cells #[.bool false, .int .u64 0, .int .u64 0, .bool false, .int .u64 0, .int .u64 0, .int .u16 0, .int .u16 0, .int .u8 0] 29)) w.heap.size 29 (flC false 0 0 false 0 0 0 0 0) := Bk.new w 29 #[.bool false, .int .u64 0, .int .u64 0, .bool false, .int .u64 0, .int .u64 0, .int .u16 0, .int .u16 0, .int .u8 0]
    have be : Below w.heap.size w (w.alloc (.cells #[.bool false, .int .u64 0, .int .u64 0, .bool false, .int .u64 0, .int .u64 0, .int .u16 0, .int .u16 0, .int .u8 0] 29)) := Below.allocS (Below.refl _ _) _
    clear hv hx hn hm hcell hs h5 hz hm0 hz8 hq
    go_enter Try.func49, Try.ntmps49
    go_upto_region 1 with (fail)
    have yV := be.cell (p := ⟨b, off, none⟩) hbl
    rw [y0] at yV
    have zV := be.size
    generalize w.alloc (.cells #[.bool false, .int .u64 0, .int .u64 0, .bool false, .int .u64 0, .int .u64 0, .int .u16 0, .int .u16 0, .int .u8 0] 29) = V at *
    have zb : b < V.heap.size := by omega
    go_wp2_with (refine at_op (.store 29 (.tmp 2) (.tmp 32)) rfl ?_; refine wpList_stA (t := 29) 29 (.tmp 2) (.tmp 32) rfl rfl (flC false 0 0 false 0 0 0 0 0) (flC false 0 0 false 0 0 0 0 0) rfl (flC_one _ _ _ _ _ _ _ _ _) rfl rfl b2 (szFl _ _ _ _ _ _ _ _ _) ?_; intro W9 h9 g9)
    refine bodyPost_agg3 Try.results49 rfl rfl rfl h9.range u1 u2 (szFl _ _ _ _ _ _ _ _ _) rfl (RetV.mk ?_)
    exact below_grown be g9 (by omega)
set_option maxHeartbeats 4000000 in
set_option maxRecDepth 100000 in
theorem open4_3 (A : Option Addr) (n c : Nat) (l : List UInt8) (w : World) (h : Rb w A n c l) (hm : n ≤ 1000000) (x f : Nat) (hx : num ((l.drop 0).take 1) = x) (hxf : num ((l.drop 6).take 2) = f) (hn : 20 ≤ n) (hv : x / 16 = 4) (hs : 20 ≤ 4 * (x % 16)) (hs8 : 4 * (x % 16) + 8 ≤ n) (hf : f % 16384 ≠ 0) : Calls Try.prog 49 #[.slice A n c] w (RetV w (.tuple #[.agg (flC false 0 0 false 0 0 0 0 0).toArray, .slice none 0 0, .bool false])) := by
  have hc := h.2.1
  have hl := h.1
  obtain ⟨b, off, rfl, hbl, hcell⟩ := h.2.2.at_ (by rw [bcs_length, h.1]; omega)
  have y0 := num_cell hcell 0 (by omega)
  rw [hx, Nat.add_zero] at y0
  have hx8 : x < 256 := by rw [← hx]; exact num_lt' l 0 1 256 (by decide)
  have a1 : decide ((n : Int) < 20) = false := by simp only [decide_eq_false_iff_not]; omega
  have a2 : decide (n < 20) = false := by simp only [decide_eq_false_iff_not]; omega
  have i0 : (0 : Int) < (n : Int) := by omega
  have i1 : 0 < n := by omega
  obtain ⟨q, hq⟩ : ∃ q : Nat, q = x / 16 := ⟨_, rfl⟩
  have e1 : (x : Int) / 16 = (q : Int) := by omega
  obtain rfl : q = 4 := by omega
  obtain ⟨m, hm0⟩ : ∃ m : Nat, x % 16 = m := ⟨_, rfl⟩
  have ea := u8_and15 x hx8
  rw [hm0] at ea
  obtain ⟨z, hz⟩ : ∃ z : Nat, z = 4 * m := ⟨_, rfl⟩
  have e2 : IntKind.i64.wrap (m : Int) = (m : Int) := IntWalk.i64_in _ (by omega)
  have e3 : IntKind.i64.wrap ((m : Int) * 4) = (z : Int) := by rw [IntWalk.i64_in _ (by omega)]; omega
  obtain ⟨z8, hz8⟩ : ∃ k : Nat, k = z + 8 := ⟨_, rfl⟩
  have e4 : IntKind.i64.wrap ((z : Int) + 8) = (z8 : Int) := by rw [IntWalk.i64_in _ (by omega)]; omega
  have c1 : decide ((z : Int) < 20) = false := by simp only [decide_eq_false_iff_not]; omega
  have c2 : decide (z < 20) = false := by simp only [decide_eq_false_iff_not]; omega
  have c3 : decide ((n : Int) < (z8 : Int)) = false := by simp only [decide_eq_false_iff_not]; omega
  have c4 : decide (n < z8) = false := by simp only [decide_eq_false_iff_not]; omega
  have hf16 : f < 65536 := by rw [← hxf]; exact num_lt' l 6 2 65536 (by decide)
  have ef := and16383 f hf16
  have j68 : (8 : Int) ≤ (c : Int) := by omega
  have h68 : Rb w (cutA (some ⟨b, off, none⟩) c 6 1) 2 (c - 6) ((l.drop 6).take 2) := (h.cut (k := 6) (by omega)).take (by omega)
  have h68l := h68.1
  have HRD := Lib.hid (fun w (h : Rb w (cutA (some ⟨b, off, none⟩) c 6 1) 2 (c - 6) ((l.drop 6).take 2)) => readK _ _ _ _ w h (by decide))
  generalize (l.drop 6).take 2 = fb at *
  have hxf2 : Hid (num ((fb.drop 0).take 2) = f) := Lib.hid (by rw [List.drop_zero, List.take_of_length_le (by omega)]; exact hxf)
  have nf : (((f % 16384 : Nat) : Int) != 0) = true := by rw [bne_iff_ne]; omega
  generalize f % 16384 = fm at *
  obtain ⟨du, u1, u2⟩ := rowFl
  have b2 : Bk (w.alloc (.cells #[.bool false, .int .u64 0, .int .u64 0, .bool false, .int .u64 0, .int .u64 0, .int .u16 0, .int .u16 0, .int .u8 0] 29)) w.heap.size 29 (flC false 0 0 false 0 0 0 0 0) := Bk.new w 29 #[.bool false, .int .u64 0, .int .u64 0, .bool false, .int .u64 0, .int .u64 0, .int .u16 0, .int .u16 0, .int .u8 0]
  have be : Below w.heap.size w (w.alloc (.cells #[.bool false, .int .u64 0, .int .u64 0, .bool false, .int .u64 0, .int .u64 0, .int .u16 0, .int .u16 0, .int .u8 0] 29)) := Below.allocS (Below.refl _ _) _
  clear hv hx hn hm hcell hs hs8 hz hm0 hz8 hq hxf hf
  go_enter Try.func49, Try.ntmps49
  go_upto_region 1 with (fail)
  have yV := be.cell (p := ⟨b, off, none⟩) hbl
  rw [y0] at yV
  have zV := be.size
  generalize w.alloc (.cells #[.bool false, .int .u64 0, .int .u64 0, .bool false, .int .u64 0, .int .u64 0, .int .u16 0, .int .u16 0, .int .u8 0] 29) = V at *
  have zb : b < V.heap.size := by omega
  go_wp2_with fail
  refine (HRD.out _ (h68.later be)).mono ?_
  rintro e w1 ⟨r, bs1, d1, rfl, rfl, hr1, hR⟩
  have zb2 := b2.lt
  replace b2 := b2.later (below_plus _ bs1 d1)
  replace be := belowP be bs1 d1
  have hr2 : w.heap.size < r := by omega
  have zs := be.size
  generalize plus V bs1 d1 = V1 at *
  go_wp2_with fail
  refine (wordG V1 r fb 0 f hR (by omega) (by omega) hxf2.out).mono ?_
  rintro e V2 ⟨rfl, hR1, hg1⟩
  replace b2 := b2.grown hg1 (by simp; omega)
  replace be := below_grown be hg1 (by omega)
  clear hg1 hR hR1
  go_wp2_with (refine at_op (.store 29 (.tmp 2) (.tmp 39)) rfl ?_; refine wpList_stA (t := 29) 29 (.tmp 2) (.tmp 39) rfl rfl (flC false 0 0 false 0 0 0 0 0) (flC false 0 0 false 0 0 0 0 0) rfl (flC_one _ _ _ _ _ _ _ _ _) rfl rfl b2 (szFl _ _ _ _ _ _ _ _ _) ?_; intro W9 h9 g9)
  refine bodyPost_agg3 Try.results49 rfl rfl rfl h9.range u1 u2 (szFl _ _ _ _ _ _ _ _ _) rfl (RetV.mk ?_)
  exact below_grown be g9 (by omega)
/-- what open4, open6 give -/
def RetOp (w : World) (s1 : Bool) (h1 l1 : Nat) (s2 : Bool) (h2 l2 p : Nat) (L : List UInt8) (e : Ending) (w' : World) : Prop := ∃ A n c bs d, e = .returned (.tuple #[.agg (flC s1 h1 l1 s2 h2 l2 0 0 p).toArray, .slice A n c, .bool true]) ∧ w' = plus w bs d ∧ Rb (plus w bs d) A n c L
set_option maxHeartbeats 4000000 in
set_option maxRecDepth 100000 in
theorem open4_ok (A : Option Addr) (n c : Nat) (l : List UInt8) (w : World) (h : Rb w A n c l) (hm : n ≤ 1000000) (x f p sa da : Nat) (hx : num ((l.drop 0).take 1) = x) (hxf : num ((l.drop 6).take 2) = f) (hxp : num ((l.drop 9).take 1) = p) (hxs : num ((l.drop 12).take 4) = sa) (hxd : num ((l.drop 16).take 4) = da) (hn : 20 ≤ n) (hv : x / 16 = 4) (hs : 20 ≤ 4 * (x % 16)) (hs8 : 4 * (x % 16) + 8 ≤ n) (hf : f % 16384 = 0) : Calls Try.prog 49 #[.slice A n c] w (RetOp w false 0 sa false 0 da p (l.drop (4 * (x % 16)))) := by
  have hc := h.2.1
  have hl := h.1
  obtain ⟨b, off, rfl, hbl, hcell⟩ := h.2.2.at_ (by rw [bcs_length, h.1]; omega)
  have y0 := num_cell hcell 0 (by omega)
  rw [hx, Nat.add_zero] at y0
  have hx8 : x < 256 := by rw [← hx]; exact num_lt' l 0 1 256 (by decide)
  have a1 : decide ((n : Int) < 20) = false := by simp only [decide_eq_false_iff_not]; omega
  have a2 : decide (n < 20) = false := by simp only [decide_eq_false_iff_not]; omega
  have i0 : (0 : Int) < (n : Int) := by omega
  have i1 : 0 < n := by omega
  obtain ⟨q, hq⟩ : ∃ q : Nat, q = x / 16 := ⟨_, rfl⟩
  have e1 : (x : Int) / 16 = (q : Int) := by omega
  obtain rfl : q = 4 := by omega
  obtain ⟨m, hm0⟩ : ∃ m : Nat, x % 16 = m := ⟨_, rfl⟩
  have ea := u8_and15 x hx8
  rw [hm0] at ea
  obtain ⟨z, hz⟩ : ∃ z : Nat, z = 4 * m := ⟨_, rfl⟩
  have e2 : IntKind.i64.wrap (m : Int) = (m : Int) := IntWalk.i64_in _ (by omega)
  have e3 : IntKind.i64.wrap ((m : Int) * 4) = (z : Int) := by rw [IntWalk.i64_in _ (by omega)]; omega
  obtain ⟨z8, hz8⟩ : ∃ k : Nat, k = z + 8 := ⟨_, rfl⟩
  have e4 : IntKind.i64.wrap ((z : Int) + 8) = (z8 : Int) := by rw [IntWalk.i64_in _ (by omega)]; omega
  have y9 := num_cell hcell 9 (by omega)
  rw [hxp] at y9
  have c1 : decide ((z : Int) < 20) = false := by simp only [decide_eq_false_iff_not]; omega
  have c2 : decide (z < 20) = false := by simp only [decide_eq_false_iff_not]; omega
  have c3 : decide ((n : Int) < (z8 : Int)) = false := by simp only [decide_eq_false_iff_not]; omega
  have c4 : decide (n < z8) = false := by simp only [decide_eq_false_iff_not]; omega
  have hf16 : f < 65536 := by rw [← hxf]; exact num_lt' l 6 2 65536 (by decide)
  have ef := and16383 f hf16
  have j68 : (8 : Int) ≤ (c : Int) := by omega
  have h68 : Rb w (cutA (some ⟨b, off, none⟩) c 6 1) 2 (c - 6) ((l.drop 6).take 2) := (h.cut (k := 6) (by omega)).take (by omega)
  have h68l := h68.1
  have HRD := Lib.hid (fun w (h : Rb w (cutA (some ⟨b, off, none⟩) c 6 1) 2 (c - 6) ((l.drop 6).take 2)) => readK _ _ _ _ w h (by decide))
  generalize (l.drop 6).take 2 = fb at *
  have hxf2 : Hid (num ((fb.drop 0).take 2) = f) := Lib.hid (by rw [List.drop_zero, List.take_of_length_le (by omega)]; exact hxf)
  rw [hf] at ef
  have i9 : (9 : Int) < (n : Int) := by omega
  have i9n : 9 < n := by omega
  have j1 : (16 : Int) ≤ (c : Int) := by omega
  have j2 : (20 : Int) ≤ (c : Int) := by omega
  have j3 : (0 : Int) ≤ (z : Int) := by omega
  have j4 : (z : Int) ≤ (n : Int) := by omega
  have hA1 : Rb w (cutA (some ⟨b, off, none⟩) c 12 1) 4 (c - 12) ((l.drop 12).take 4) := (h.cut (k := 12) (by omega)).take (by omega)
  have hA2 : Rb w (cutA (some ⟨b, off, none⟩) c 16 1) 4 (c - 16) ((l.drop 16).take 4) := (h.cut (k := 16) (by omega)).take (by omega)
  have hz4 : 4 * (x % 16) = z := by omega
  rw [hz4]
  have hLd : Rb w (cutA (some ⟨b, off, none⟩) c z 1) (n - z) (c - z) (l.drop z) := h.cut (k := z) (by omega)
  have HFL := Lib.hid (fun w (h1 : Rb w (cutA (some ⟨b, off, none⟩) c 12 1) 4 (c - 12) ((l.drop 12).take 4)) (h2 : Rb w (cutA (some ⟨b, off, none⟩) c 16 1) 4 (c - 16) ((l.drop 16).take 4)) => steFlow _ 4 _ _ 4 _ false 0 sa false 0 da p w (fun w' hb => adrOf4 sa _ _ _ w' (h1.later hb) hxs) (fun w' hb => adrOf4 da _ _ _ w' (h2.later hb) hxd))
  obtain ⟨du, u1, u2⟩ := rowFl
  have b2 : Bk (w.alloc (.cells #[.bool false, .int .u64 0, .int .u64 0, .bool false, .int .u64 0, .int .u64 0, .int .u16 0, .int .u16 0, .int .u8 0] 29)) w.heap.size 29 (flC false 0 0 false 0 0 0 0 0) := Bk.new w 29 #[.bool false, .int .u64 0, .int .u64 0, .bool false, .int .u64 0, .int .u64 0, .int .u16 0, .int .u16 0, .int .u8 0]
  have be : Below w.heap.size w (w.alloc (.cells #[.bool false, .int .u64 0, .int .u64 0, .bool false, .int .u64 0, .int .u64 0, .int .u16 0, .int .u16 0, .int .u8 0] 29)) := Below.allocS (Below.refl _ _) _
  clear hv hx hn hm hcell hs hs8 hz hm0 hz8 hq hxf hf hz4
  go_enter Try.func49, Try.ntmps49
  go_upto_region 1 with (fail)
  have yV := be.cell (p := ⟨b, off, none⟩) hbl
  rw [y0] at yV
  have zV := be.size
  generalize w.alloc (.cells #[.bool false, .int .u64 0, .int .u64 0, .bool false, .int .u64 0, .int .u64 0, .int .u16 0, .int .u16 0, .int .u8 0] 29) = V at *
  have zb : b < V.heap.size := by omega
  go_wp2_with fail
  refine (HRD.out _ (h68.later be)).mono ?_
  rintro e w1 ⟨r, bs1, d1, rfl, rfl, hr1, hR⟩
  have zb2 := b2.lt
  replace b2 := b2.later (below_plus _ bs1 d1)
  replace be := belowP be bs1 d1
  have hr2 : w.heap.size < r := by omega
  have zs := be.size
  generalize plus V bs1 d1 = V1 at *
  go_wp2_with fail
  refine (wordG V1 r fb 0 f hR (by omega) (by omega) hxf2.out).mono ?_
  rintro e V2 ⟨rfl, hR1, hg1⟩
  replace b2 := b2.grown hg1 (by simp; omega)
  replace be := below_grown be hg1 (by omega)
  clear hg1 hR hR1
  go_upto_region 8 with (fail)
  have zbW := Nat.lt_of_lt_of_le hbl be.size
  have yW := (be.cell (p := ⟨b, off + 9, none⟩) hbl).trans y9
  replace hA1 := hA1.later be
  replace hA2 := hA2.later be
  replace hLd := hLd.later be
  have nA : ∀ k a, cutA (some ⟨b, off, none⟩) c k 1 = some a → ¬ (fun b => b = w.heap.size) a.block := fun k a ha h => by
    have h' : a.block = w.heap.size := h
    have : a.block = b := by
      unfold cutA at ha
      split at ha
      · injection ha with ha; subst ha; rfl
      · simp [add_plain] at ha; subst ha; rfl
    omega
  go_wp2
  refine wp_suS (fun b => b = w.heap.size) 14 51 2 [11] rfl (by kernel_rfl) (by kernel_rfl) (fun k w' => Bk w' w.heap.size 29 (if k = 0 then flC false 0 0 false 0 0 0 0 0 else flC false 0 sa false 0 da 0 0 p)) (fun k w w' h h' => h.later h'.below) (b2) ?_
  apply StepsC.one (MC.eq _) 1 rfl (by decide)
  · intro o ho FA w' hC hO hD K hK
    obtain rfl := Option.some.inj ho.symm
    clear ho
    have e0 := hO 0 (by kernel_rfl)
    simp only [eval_tmp, List.getElem?_toArray, List.getElem?_cons_succ, List.getElem?_cons_zero, Option.getD_some] at e0
    have ev0 := Lib.hid ((eval_tmp FA 0).trans e0)
    clear hO hD
    go_simp
    exact hK.out _ _ (Ex.refl _) rfl
  apply StepsC.one (MC.eq _) 2 rfl (by decide)
  · intro o ho FA w' hC hO hD K hK
    obtain rfl := Option.some.inj ho.symm
    clear ho
    have ev40 : FA.eval (.tmp 40) = _ := hD 0 40 (by kernel_rfl)
    have e40 := (eval_tmp FA 40).symm.trans ev40
    replace ev40 := Lib.hid ev40
    clear hO hD
    go_simp
    exact hK.out _ _ (Ex.refl _) rfl
  apply StepsC.one (MC.eq _) 3 rfl (by decide)
  · intro o ho FA w' hC hO hD K hK
    obtain rfl := Option.some.inj ho.symm
    clear ho
    have e0 := hO 0 (by kernel_rfl)
    simp only [eval_tmp, List.getElem?_toArray, List.getElem?_cons_succ, List.getElem?_cons_zero, Option.getD_some] at e0
    have ev0 := Lib.hid ((eval_tmp FA 0).trans e0)
    clear hO hD
    go_simp
    exact hK.out _ _ (Ex.refl _) rfl
  apply StepsC.one (MC.eq _) 4 rfl (by decide)
  · intro o ho FA w' hC hO hD K hK
    obtain rfl := Option.some.inj ho.symm
    clear ho
    have ev42 : FA.eval (.tmp 42) = _ := hD 2 42 (by kernel_rfl)
    have e42 := (eval_tmp FA 42).symm.trans ev42
    replace ev42 := Lib.hid ev42
    clear hO hD
    go_simp
    exact hK.out _ _ (Ex.refl _) rfl
  apply StepsC.one (MC.eq _) 5 rfl (by decide)
  · intro o ho FA w' hC hO hD K hK
    obtain rfl := Option.some.inj ho.symm
    clear ho
    have e0 := hO 0 (by kernel_rfl)
    simp only [eval_tmp, List.getElem?_toArray, List.getElem?_cons_succ, List.getElem?_cons_zero, Option.getD_some] at e0
    have ev0 := Lib.hid ((eval_tmp FA 0).trans e0)
    clear hO hD
    go_simp
    exact hK.out _ _ (Ex.refl _) rfl
  apply StepsC.one (MC.eq _) 6 rfl (by decide)
  · intro o ho FA w' hC hO hD K hK
    obtain rfl := Option.some.inj ho.symm
    clear ho
    have ev44 : FA.eval (.tmp 44) = _ := hD 4 44 (by kernel_rfl)
    have e44 := (eval_tmp FA 44).symm.trans ev44
    replace ev44 := Lib.hid ev44
    clear hO hD
    go_simp
    exact hK.out _ _ (Ex.refl _) rfl
  apply StepsC.one (MC.eq _) 7 rfl (by decide)
  · intro o ho FA w' hC hO hD K hK
    obtain rfl := Option.some.inj ho.symm
    clear ho
    have ev45 : FA.eval (.tmp 45) = _ := hD 5 45 (by kernel_rfl)
    have e45 := (eval_tmp FA 45).symm.trans ev45
    replace ev45 := Lib.hid ev45
    clear hO hD
    have cc : w'.cell? ⟨b, off + 9, none⟩ = some (.int .u8 (p : Int)) := (World.cell?_of_block (hC.block b zbW (fun h => by have h' : b = w.heap.size := h; omega))).trans yW
    go_simp
    exact hK.out _ _ (Ex.refl _) rfl
  apply StepsC.one (MC.eq _) 8 rfl (by decide)
  · intro o ho FA w' hC hO hD K hK
    obtain rfl := Option.some.inj ho.symm
    clear ho
    have ev41 : FA.eval (.tmp 41) = _ := hD 1 41 (by kernel_rfl)
    have e41 := (eval_tmp FA 41).symm.trans ev41
    replace ev41 := Lib.hid ev41
    have ev43 : FA.eval (.tmp 43) = _ := hD 3 43 (by kernel_rfl)
    have e43 := (eval_tmp FA 43).symm.trans ev43
    replace ev43 := Lib.hid ev43
    have ev46 : FA.eval (.tmp 46) = _ := hD 6 46 (by kernel_rfl)
    have e46 := (eval_tmp FA 46).symm.trans ev46
    replace ev46 := Lib.hid ev46
    clear hO hD
    go_simp
    refine (HFL.out _ (hA1.chg hC (nA _)) (hA2.chg hC (nA _))).mono ?_
    rintro e w1 ⟨bs2, d2, rfl, rfl⟩
    exact hK.out _ _ (Ex.plus_ _ _ _) rfl
  apply StepsC.one (MC.eq _) 9 rfl (by decide)
  · intro o ho FA w' hC hO hD K hK
    obtain rfl := Option.some.inj ho.symm
    clear ho
    have e0 := hO 0 (by kernel_rfl)
    simp only [eval_tmp, List.getElem?_toArray, List.getElem?_cons_succ, List.getElem?_cons_zero, Option.getD_some] at e0
    have ev0 := Lib.hid ((eval_tmp FA 0).trans e0)
    clear hO hD
    go_simp
    exact hK.out _ _ (Ex.refl _) rfl
  apply StepsC.one (MC.eq _) 10 rfl (by decide)
  · intro o ho FA w' hC hO hD K hK
    obtain rfl := Option.some.inj ho.symm
    clear ho
    have e5 := hO 5 (by kernel_rfl)
    simp only [eval_tmp, List.getElem?_toArray, List.getElem?_cons_succ, List.getElem?_cons_zero, Option.getD_some] at e5
    have ev5 := Lib.hid ((eval_tmp FA 5).trans e5)
    clear hO hD
    go_simp
    exact hK.out _ _ (Ex.refl _) rfl
  apply StepsC.one (MC.eq _) 11 rfl (by decide)
  · intro o ho FA w' hC hO hD K hK
    obtain rfl := Option.some.inj ho.symm
    clear ho
    have ev48 : FA.eval (.tmp 48) = _ := hD 8 48 (by kernel_rfl)
    have e48 := (eval_tmp FA 48).symm.trans ev48
    replace ev48 := Lib.hid ev48
    have ev49 : FA.eval (.tmp 49) = _ := hD 9 49 (by kernel_rfl)
    have e49 := (eval_tmp FA 49).symm.trans ev49
    replace ev49 := Lib.hid ev49
    clear hO hD
    go_simp
    exact hK.out _ _ (Ex.refl _) rfl
  apply StepsC.mov MC.any 12 0 rfl rfl rfl
  · intro o ho FA w' hC hO hD hS K hK
    obtain rfl := Option.some.inj ho.symm
    clear ho
    have e2 := hO 2 (by kernel_rfl)
    simp only [eval_tmp, List.getElem?_toArray, List.getElem?_cons_succ, List.getElem?_cons_zero, Option.getD_some] at e2
    have ev2 := Lib.hid ((eval_tmp FA 2).trans e2)
    have ev47 : FA.eval (.tmp 47) = _ := hD 7 47 (by kernel_rfl)
    have e47 := (eval_tmp FA 47).symm.trans ev47
    replace ev47 := Lib.hid ev47
    clear hO hD
    refine wanted_if rfl ?_
    refine wp_stA 29 (.tmp 2) (.tmp 47) rfl (flC false 0 sa false 0 da 0 0 p) (flC false 0 0 false 0 0 0 0 0) rfl (flC_one _ _ _ _ _ _ _ _ _) ev2.out ev47.out hS (szFl _ _ _ _ _ _ _ _ _) ?_
    intro w'' hn hg
    exact hK.out undef _ (Chg.one hg rfl) hn trivial
  apply StepsC.one (MC.eq _) 13 rfl (by decide)
  · intro o ho FA w' hC hO hD K hK
    obtain rfl := Option.some.inj ho.symm
    clear ho
    have ev50 : FA.eval (.tmp 50) = _ := hD 10 50 (by kernel_rfl)
    have e50 := (eval_tmp FA 50).symm.trans ev50
    replace ev50 := Lib.hid ev50
    clear hO hD
    go_simp
    exact hK.out _ _ (Ex.refl _) rfl
  apply StepsC.one (MC.eq _) 14 rfl (by decide)
  · intro o ho FA w' hC hO hD K hK
    obtain rfl := Option.some.inj ho.symm
    clear ho
    clear hO hD
    go_simp
    exact hK.out _ _ (Ex.refl _) rfl
  refine StepsC.fin_ (fun vs w' hC hS hp => ?_)
  have p0 : vs 0 = _ := hp 0 (by omega) rfl
  have p1 : vs 1 = _ := hp 1 (by omega) rfl
  have p2 : vs 2 = _ := hp 2 (by omega) rfl
  have p3 : vs 3 = _ := hp 3 (by omega) rfl
  have p4 : vs 4 = _ := hp 4 (by omega) rfl
  have p5 : vs 5 = _ := hp 5 (by omega) rfl
  have p6 : vs 6 = _ := hp 6 (by omega) rfl
  have p7 : vs 7 = _ := hp 7 (by omega) rfl
  have p8 : vs 8 = _ := hp 8 (by omega) rfl
  have p9 : vs 9 = _ := hp 9 (by omega) rfl
  have p10 : vs 10 = _ := hp 10 (by omega) rfl
  have p12 : vs 12 = _ := hp 12 (by omega) rfl
  have p13 : vs 13 = _ := hp 13 (by omega) rfl
  clear hp
  simp only [List.take_succ_cons, List.take_zero, List.drop_succ_cons, List.drop_zero, putAll, Nat.zero_add, Nat.reduceAdd, Act.put, List.setIfInBounds_toArray, List.set_cons_zero, List.set_cons_succ, p0, p1, p2, p3, p4, p5, p6, p7, p8, p9, p10, p12, p13]
  clear p0 p1 p2 p3 p4 p5 p6 p7 p8 p9 p10 p12 p13
  clear vs
  replace hLd := hLd.chg hC (nA _)
  replace be : Below w.heap.size w w' := be.trans (hC.below (B := w.heap.size) (fun b hb => by have : b = w.heap.size := hb; omega) be.size)
  go_wp2
  refine bodyPost_agg3 Try.results49 rfl rfl rfl (Bk.range hS) u1 u2 (szFl _ _ _ _ _ _ _ _ _) rfl ?_
  obtain ⟨bs, d, rfl⟩ := plus_of be
  exact ⟨_, _, _, bs, d, rfl, rfl, hLd⟩
set_option maxHeartbeats 4000000 in
set_option maxRecDepth 100000 in
theorem open6_ok (A : Option Addr) (n c : Nat) (l : List UInt8) (w : World) (h : Rb w A n c l) (hm : n ≤ 1000000) (x p sh sl dh dl : Nat) (hx : num ((l.drop 0).take 1) = x) (hxp : num ((l.drop 6).take 1) = p) (z0 : (l.drop 8).take 16 = dig sh 8 ++ dig sl 8) (z1 : (l.drop 24).take 16 = dig dh 8 ++ dig dl 8) (k1 : sh < 18446744073709551616) (k2 : sl < 18446744073709551616) (k3 : dh < 18446744073709551616) (k4 : dl < 18446744073709551616) (hn : 48 ≤ n) (hv : x / 16 = 6) : Calls Try.prog 50 #[.slice A n c] w (RetOp w true sh sl true dh dl p (l.drop 40)) := by
  have hc := h.2.1
  have hl := h.1
  obtain ⟨b, off, rfl, hbl, hcell⟩ := h.2.2.at_ (by rw [bcs_length, h.1]; omega)
  have y0 := num_cell hcell 0 (by omega)
  rw [hx, Nat.add_zero] at y0
  have hx8 : x < 256 := by rw [← hx]; exact num_lt' l 0 1 256 (by decide)
  have a1 : decide ((n : Int) < 48) = false := by simp only [decide_eq_false_iff_not]; omega
  have a2 : decide (n < 48) = false := by simp only [decide_eq_false_iff_not]; omega
  have i0 : (0 : Int) < (n : Int) := by omega
  have i1 : 0 < n := by omega
  obtain ⟨q, hq⟩ : ∃ q : Nat, q = x / 16 := ⟨_, rfl⟩
  have e1 : (x : Int) / 16 = (q : Int) := by omega
  obtain rfl : q = 6 := by omega
  have y9 := num_cell hcell 6 (by omega)
  rw [hxp] at y9
  have i9 : (6 : Int) < (n : Int) := by omega
  have i9n : 6 < n := by omega
  have j1 : (24 : Int) ≤ (c : Int) := by omega
  have j2 : (40 : Int) ≤ (c : Int) := by omega
  have j3 : (40 : Int) ≤ (n : Int) := by omega
  have hA1 : Rb w (cutA (some ⟨b, off, none⟩) c 8 1) 16 (c - 8) (dig sh 8 ++ dig sl 8) := by
    have := (h.cut (k := 8) (by omega)).take (k := 16) (by omega)
    rwa [z0] at this
  have hA2 : Rb w (cutA (some ⟨b, off, none⟩) c 24 1) 16 (c - 24) (dig dh 8 ++ dig dl 8) := by
    have := (h.cut (k := 24) (by omega)).take (k := 16) (by omega)
    rwa [z1] at this
  have hLd : Rb w (cutA (some ⟨b, off, none⟩) c 40 1) (n - 40) (c - 40) (l.drop 40) := h.cut (k := 40) (by omega)
  have HFL := Lib.hid (fun w (h1 : Rb w (cutA (some ⟨b, off, none⟩) c 8 1) 16 (c - 8) (dig sh 8 ++ dig sl 8)) (h2 : Rb w (cutA (some ⟨b, off, none⟩) c 24 1) 16 (c - 24) (dig dh 8 ++ dig dl 8)) => steFlow _ 16 _ _ 16 _ true sh sl true dh dl p w (fun w' hb => adrOf16 sh sl _ _ w' k1 k2 (h1.later hb)) (fun w' hb => adrOf16 dh dl _ _ w' k3 k4 (h2.later hb)))
  obtain ⟨du, u1, u2⟩ := rowFl
  have b2 : Bk (w.alloc (.cells #[.bool false, .int .u64 0, .int .u64 0, .bool false, .int .u64 0, .int .u64 0, .int .u16 0, .int .u16 0, .int .u8 0] 29)) w.heap.size 29 (flC false 0 0 false 0 0 0 0 0) := Bk.new w 29 #[.bool false, .int .u64 0, .int .u64 0, .bool false, .int .u64 0, .int .u64 0, .int .u16 0, .int .u16 0, .int .u8 0]
  have be : Below w.heap.size w (w.alloc (.cells #[.bool false, .int .u64 0, .int .u64 0, .bool false, .int .u64 0, .int .u64 0, .int .u16 0, .int .u16 0, .int .u8 0] 29)) := Below.allocS (Below.refl _ _) _
  clear hv hx hn hm hcell hq z0 z1
  go_enter Try.func50, Try.ntmps50
  go_upto_region 1 with (fail)
  have yV := be.cell (p := ⟨b, off, none⟩) hbl
  rw [y0] at yV
  have zV := be.size
  generalize w.alloc (.cells #[.bool false, .int .u64 0, .int .u64 0, .bool false, .int .u64 0, .int .u64 0, .int .u16 0, .int .u16 0, .int .u8 0] 29) = V at *
  have zb : b < V.heap.size := by omega
  go_upto_region 3 with (fail)
  have zbW := Nat.lt_of_lt_of_le hbl be.size
  have yW := (be.cell (p := ⟨b, off + 6, none⟩) hbl).trans y9
  replace hA1 := hA1.later be
  replace hA2 := hA2.later be
  replace hLd := hLd.later be
  have nA : ∀ k a, cutA (some ⟨b, off, none⟩) c k 1 = some a → ¬ (fun b => b = w.heap.size) a.block := fun k a ha h => by
    have h' : a.block = w.heap.size := h
    have : a.block = b := by
      unfold cutA at ha
      split at ha
      · injection ha with ha; subst ha; rfl
      · simp [add_plain] at ha; subst ha; rfl
    omega
  go_wp2
  refine wp_suS (fun b => b = w.heap.size) 13 26 2 [10] rfl (by kernel_rfl) (by kernel_rfl) (fun k w' => Bk w' w.heap.size 29 (if k = 0 then flC false 0 0 false 0 0 0 0 0 else flC true sh sl true dh dl 0 0 p)) (fun k w w' h h' => h.later h'.below) (b2) ?_
  apply StepsC.one (MC.eq _) 1 rfl (by decide)
  · intro o ho FA w' hC hO hD K hK
    obtain rfl := Option.some.inj ho.symm
    clear ho
    have e0 := hO 0 (by kernel_rfl)
    simp only [eval_tmp, List.getElem?_toArray, List.getElem?_cons_succ, List.getElem?_cons_zero, Option.getD_some] at e0
    have ev0 := Lib.hid ((eval_tmp FA 0).trans e0)
    clear hO hD
    go_simp
    exact hK.out _ _ (Ex.refl _) rfl
  apply StepsC.one (MC.eq _) 2 rfl (by decide)
  · intro o ho FA w' hC hO hD K hK
    obtain rfl := Option.some.inj ho.symm
    clear ho
    have ev16 : FA.eval (.tmp 16) = _ := hD 0 16 (by kernel_rfl)
    have e16 := (eval_tmp FA 16).symm.trans ev16
    replace ev16 := Lib.hid ev16
    clear hO hD
    go_simp
    exact hK.out _ _ (Ex.refl _) rfl
  apply StepsC.one (MC.eq _) 3 rfl (by decide)
  · intro o ho FA w' hC hO hD K hK
    obtain rfl := Option.some.inj ho.symm
    clear ho
    have e0 := hO 0 (by kernel_rfl)
    simp only [eval_tmp, List.getElem?_toArray, List.getElem?_cons_succ, List.getElem?_cons_zero, Option.getD_some] at e0
    have ev0 := Lib.hid ((eval_tmp FA 0).trans e0)
    clear hO hD
    go_simp
    exact hK.out _ _ (Ex.refl _) rfl
  apply StepsC.one (MC.eq _) 4 rfl (by decide)
  · intro o ho FA w' hC hO hD K hK
    obtain rfl := Option.some.inj ho.symm
    clear ho
    have ev18 : FA.eval (.tmp 18) = _ := hD 2 18 (by kernel_rfl)
    have e18 := (eval_tmp FA 18).symm.trans ev18
    replace ev18 := Lib.hid ev18
    clear hO hD
    go_simp
    exact hK.out _ _ (Ex.refl _) rfl
  apply StepsC.one (MC.eq _) 5 rfl (by decide)
  · intro o ho FA w' hC hO hD K hK
    obtain rfl := Option.some.inj ho.symm
    clear ho
    have e0 := hO 0 (by kernel_rfl)
    simp only [eval_tmp, List.getElem?_toArray, List.getElem?_cons_succ, List.getElem?_cons_zero, Option.getD_some] at e0
    have ev0 := Lib.hid ((eval_tmp FA 0).trans e0)
    clear hO hD
    go_simp
    exact hK.out _ _ (Ex.refl _) rfl
  apply StepsC.one (MC.eq _) 6 rfl (by decide)
  · intro o ho FA w' hC hO hD K hK
    obtain rfl := Option.some.inj ho.symm
    clear ho
    have ev20 : FA.eval (.tmp 20) = _ := hD 4 20 (by kernel_rfl)
    have e20 := (eval_tmp FA 20).symm.trans ev20
    replace ev20 := Lib.hid ev20
    clear hO hD
    go_simp
    exact hK.out _ _ (Ex.refl _) rfl
  apply StepsC.one (MC.eq _) 7 rfl (by decide)
  · intro o ho FA w' hC hO hD K hK
    obtain rfl := Option.some.inj ho.symm
    clear ho
    have ev21 : FA.eval (.tmp 21) = _ := hD 5 21 (by kernel_rfl)
    have e21 := (eval_tmp FA 21).symm.trans ev21
    replace ev21 := Lib.hid ev21
    clear hO hD
    have cc : w'.cell? ⟨b, off + 6, none⟩ = some (.int .u8 (p : Int)) := (World.cell?_of_block (hC.block b zbW (fun h => by have h' : b = w.heap.size := h; omega))).trans yW
    go_simp
    exact hK.out _ _ (Ex.refl _) rfl
  apply StepsC.one (MC.eq _) 8 rfl (by decide)
  · intro o ho FA w' hC hO hD K hK
    obtain rfl := Option.some.inj ho.symm
    clear ho
    have ev17 : FA.eval (.tmp 17) = _ := hD 1 17 (by kernel_rfl)
    have e17 := (eval_tmp FA 17).symm.trans ev17
    replace ev17 := Lib.hid ev17
    have ev19 : FA.eval (.tmp 19) = _ := hD 3 19 (by kernel_rfl)
    have e19 := (eval_tmp FA 19).symm.trans ev19
    replace ev19 := Lib.hid ev19
    have ev22 : FA.eval (.tmp 22) = _ := hD 6 22 (by kernel_rfl)
    have e22 := (eval_tmp FA 22).symm.trans ev22
    replace ev22 := Lib.hid ev22
    clear hO hD
    go_simp
    refine (HFL.out _ (hA1.chg hC (nA _)) (hA2.chg hC (nA _))).mono ?_
    rintro e w1 ⟨bs2, d2, rfl, rfl⟩
    exact hK.out _ _ (Ex.plus_ _ _ _) rfl
  apply StepsC.one (MC.eq _) 9 rfl (by decide)
  · intro o ho FA w' hC hO hD K hK
    obtain rfl := Option.some.inj ho.symm
    clear ho
    have e0 := hO 0 (by kernel_rfl)
    simp only [eval_tmp, List.getElem?_toArray, List.getElem?_cons_succ, List.getElem?_cons_zero, Option.getD_some] at e0
    have ev0 := Lib.hid ((eval_tmp FA 0).trans e0)
    clear hO hD
    go_simp
    exact hK.out _ _ (Ex.refl _) rfl
  apply StepsC.one (MC.eq _) 10 rfl (by decide)
  · intro o ho FA w' hC hO hD K hK
    obtain rfl := Option.some.inj ho.symm
    clear ho
    have ev24 : FA.eval (.tmp 24) = _ := hD 8 24 (by kernel_rfl)
    have e24 := (eval_tmp FA 24).symm.trans ev24
    replace ev24 := Lib.hid ev24
    clear hO hD
    go_simp
    exact hK.out _ _ (Ex.refl _) rfl
  apply StepsC.mov MC.any 11 0 rfl rfl rfl
  · intro o ho FA w' hC hO hD hS K hK
    obtain rfl := Option.some.inj ho.symm
    clear ho
    have e2 := hO 2 (by kernel_rfl)
    simp only [eval_tmp, List.getElem?_toArray, List.getElem?_cons_succ, List.getElem?_cons_zero, Option.getD_some] at e2
    have ev2 := Lib.hid ((eval_tmp FA 2).trans e2)
    have ev23 : FA.eval (.tmp 23) = _ := hD 7 23 (by kernel_rfl)
    have e23 := (eval_tmp FA 23).symm.trans ev23
    replace ev23 := Lib.hid ev23
    clear hO hD
    refine wanted_if rfl ?_
    refine wp_stA 29 (.tmp 2) (.tmp 23) rfl (flC true sh sl true dh dl 0 0 p) (flC false 0 0 false 0 0 0 0 0) rfl (flC_one _ _ _ _ _ _ _ _ _) ev2.out ev23.out hS (szFl _ _ _ _ _ _ _ _ _) ?_
    intro w'' hn hg
    exact hK.out undef _ (Chg.one hg rfl) hn trivial
  apply StepsC.one (MC.eq _) 12 rfl (by decide)
  · intro o ho FA w' hC hO hD K hK
    obtain rfl := Option.some.inj ho.symm
    clear ho
    have ev25 : FA.eval (.tmp 25) = _ := hD 9 25 (by kernel_rfl)
    have e25 := (eval_tmp FA 25).symm.trans ev25
    replace ev25 := Lib.hid ev25
    clear hO hD
    go_simp
    exact hK.out _ _ (Ex.refl _) rfl
  apply StepsC.one (MC.eq _) 13 rfl (by decide)
  · intro o ho FA w' hC hO hD K hK
    obtain rfl := Option.some.inj ho.symm
    clear ho
    clear hO hD
    go_simp
    exact hK.out _ _ (Ex.refl _) rfl
  refine StepsC.fin_ (fun vs w' hC hS hp => ?_)
  have p0 : vs 0 = _ := hp 0 (by omega) rfl
  have p1 : vs 1 = _ := hp 1 (by omega) rfl
  have p2 : vs 2 = _ := hp 2 (by omega) rfl
  have p3 : vs 3 = _ := hp 3 (by omega) rfl
  have p4 : vs 4 = _ := hp 4 (by omega) rfl
  have p5 : vs 5 = _ := hp 5 (by omega) rfl
  have p6 : vs 6 = _ := hp 6 (by omega) rfl
  have p7 : vs 7 = _ := hp 7 (by omega) rfl
  have p8 : vs 8 = _ := hp 8 (by omega) rfl
  have p9 : vs 9 = _ := hp 9 (by omega) rfl
  have p11 : vs 11 = _ := hp 11 (by omega) rfl
  have p12 : vs 12 = _ := hp 12 (by omega) rfl
  clear hp
  simp only [List.take_succ_cons, List.take_zero, List.drop_succ_cons, List.drop_zero, putAll, Nat.zero_add, Nat.reduceAdd, Act.put, List.setIfInBounds_toArray, List.set_cons_zero, List.set_cons_succ, p0, p1, p2, p3, p4, p5, p6, p7, p8, p9, p11, p12]
  clear p0 p1 p2 p3 p4 p5 p6 p7 p8 p9 p11 p12
  clear vs
  replace hLd := hLd.chg hC (nA _)
  replace be : Below w.heap.size w w' := be.trans (hC.below (B := w.heap.size) (fun b hb => by have : b = w.heap.size := hb; omega) be.size)
  go_wp2
  refine bodyPost_agg3 Try.results50 rfl rfl rfl (Bk.range hS) u1 u2 (szFl _ _ _ _ _ _ _ _ _) rfl ?_
  obtain ⟨bs, d, rfl⟩ := plus_of be
  exact ⟨_, _, _, bs, d, rfl, rfl, hLd⟩
end Go.Proofs.Ytfmkndemkpecpaa

/- steer.Read (chapter 29). -/
namespace Go.Proofs.Ytfmkndemkpecpaa
open Go.RowKit
set_option linter.unusedVariables false
set_option linter.unusedSimpArgs false
attribute [local go_sem ↓] sliced_cut

attribute [local go_sem] cutA_zero

def qC (s1 : Bool) (h1 l1 : Nat) (s2 : Bool) (h2 l2 sp dp p st : Nat) (has : Bool) : List Value := [.bool s1, .int .u64 (h1 : Int), .int .u64 (l1 : Int), .bool s2, .int .u64 (h2 : Int), .int .u64 (l2 : Int), .int .u16 (sp : Int), .int .u16 (dp : Int), .int .u8 (p : Int), .int .u32 (st : Int), .bool has]
theorem qC_one (s1 : Bool) (h1 l1 : Nat) (s2 : Bool) (h2 l2 sp dp p st : Nat) (has : Bool) : ∀ u ∈ qC s1 h1 l1 s2 h2 l2 sp dp p st has, u.oneCell' = true := by
  intro u hu
  simp only [qC, List.mem_cons, List.not_mem_nil, or_false] at hu
  rcases hu with rfl | rfl | rfl | rfl | rfl | rfl | rfl | rfl | rfl | rfl | rfl <;> rfl
theorem szQ (s1 : Bool) (h1 l1 : Nat) (s2 : Bool) (h2 l2 sp dp p st : Nat) (has : Bool) : (Try.prog.info? 32).map (·.size) = some (qC s1 h1 l1 s2 h2 l2 sp dp p st has).length := by kernel_rfl
theorem rowQ : ∃ d, Try.prog.underlying 32 = some d ∧ d.isRow = true := ⟨_, Try.underlying32, rfl⟩
set_option maxHeartbeats 4000000 in
set_option maxRecDepth 100000 in
theorem steRead4_bad (A : Option Addr) (n c : Nat) (w : World) (HO : ∀ w', Below w.heap.size w w' → Calls Try.prog 49 #[.slice A n c] w' (RetV w' (.tuple #[.agg (flC false 0 0 false 0 0 0 0 0).toArray, .slice none 0 0, .bool false]))) : Calls Try.prog 13 #[.slice A n c, .bool false] w (RetV w (.tuple #[.agg (qC false 0 0 false 0 0 0 0 0 0 false).toArray, .bool false])) := by
  obtain ⟨du, u1, u2⟩ := rowFl
  obtain ⟨dq, q1, q2⟩ := rowQ
  have b4 : Bk (w.alloc (.cells #[.bool false, .int .u64 0, .int .u64 0, .bool false, .int .u64 0, .int .u64 0, .int .u16 0, .int .u16 0, .int .u8 0, .int .u32 0, .bool false] 32)) w.heap.size 32 (qC false 0 0 false 0 0 0 0 0 0 false) := Bk.new w 32 #[.bool false, .int .u64 0, .int .u64 0, .bool false, .int .u64 0, .int .u64 0, .int .u16 0, .int .u16 0, .int .u8 0, .int .u32 0, .bool false]
  have be : Below w.heap.size w (w.alloc (.cells #[.bool false, .int .u64 0, .int .u64 0, .bool false, .int .u64 0, .int .u64 0, .int .u16 0, .int .u16 0, .int .u8 0, .int .u32 0, .bool false] 32)) := Below.allocS (Below.refl _ _) _
  replace HO := Lib.hid HO
  go_enter Try.func13, Try.ntmps13
  go_upto_region 1 with (fail)
  generalize w.alloc (.cells #[.bool false, .int .u64 0, .int .u64 0, .bool false, .int .u64 0, .int .u64 0, .int .u16 0, .int .u16 0, .int .u8 0, .int .u32 0, .bool false] 32) = V at *
  go_wp2_with fail
  refine (HO.out _ be).mono ?_
  rintro e w1 ⟨bs1, d1, rfl, rfl⟩
  go_upto_region 5 with (refine at_op (.store 29 (.tmp 7) (.tmp 17)) rfl ?_; refine wpList_stA (t := 29) 29 (.tmp 7) (.tmp 17) rfl rfl (flC false 0 0 false 0 0 0 0 0) (flC false 0 0 false 0 0 0 0 0) rfl (flC_one _ _ _ _ _ _ _ _ _) rfl rfl ?_ (szFl _ _ _ _ _ _ _ _ _) ?_; (· refine Bk.newK _ _ _ ?_ rfl; simp [size_plus]); intro W7 hF gr7)
  have zV := be.size
  have z4 := b4.lt
  have b7 := below_grown (Below.allocS (below_plus V bs1 d1) _) gr7 (by omega)
  replace be := be.trans (b7.mono zV)
  replace b4 := b4.later b7
  go_wp2_with (refine at_op (.store 32 (.tmp 4) (.tmp 32)) rfl ?_; refine wpList_stA (t := 32) 32 (.tmp 4) (.tmp 32) rfl rfl (qC false 0 0 false 0 0 0 0 0 0 false) (qC false 0 0 false 0 0 0 0 0 0 false) rfl (qC_one _ _ _ _ _ _ _ _ _ _ _) rfl rfl b4 (szQ _ _ _ _ _ _ _ _ _ _ _) ?_; intro W9 h9 g9)
  refine bodyPost_agg2 Try.results13 rfl rfl h9.range q1 q2 (szQ _ _ _ _ _ _ _ _ _ _ _) rfl (RetV.mk ?_)
  exact below_grown be g9 (by omega)
set_option maxHeartbeats 4000000 in
set_option maxRecDepth 100000 in
theorem steRead4_np (A : Option Addr) (n c : Nat) (s1 : Bool) (h1 l1 : Nat) (s2 : Bool) (h2 l2 p : Nat) (L : List UInt8) (w : World) (hp6 : p ≠ 6) (hp17 : p ≠ 17) (HO : ∀ w', Below w.heap.size w w' → Calls Try.prog 49 #[.slice A n c] w' (RetOp w' s1 h1 l1 s2 h2 l2 p L)) : Calls Try.prog 13 #[.slice A n c, .bool false] w (RetV w (.tuple #[.agg (qC false 0 0 false 0 0 0 0 0 0 false).toArray, .bool false])) := by
  have n6 : ((p : Int) != 6) = true := by rw [bne_iff_ne]; omega
  have n17 : ((p : Int) != 17) = true := by rw [bne_iff_ne]; omega
  clear hp6 hp17
  obtain ⟨du, u1, u2⟩ := rowFl
  obtain ⟨dq, q1, q2⟩ := rowQ
  have b4 : Bk (w.alloc (.cells #[.bool false, .int .u64 0, .int .u64 0, .bool false, .int .u64 0, .int .u64 0, .int .u16 0, .int .u16 0, .int .u8 0, .int .u32 0, .bool false] 32)) w.heap.size 32 (qC false 0 0 false 0 0 0 0 0 0 false) := Bk.new w 32 #[.bool false, .int .u64 0, .int .u64 0, .bool false, .int .u64 0, .int .u64 0, .int .u16 0, .int .u16 0, .int .u8 0, .int .u32 0, .bool false]
  have be : Below w.heap.size w (w.alloc (.cells #[.bool false, .int .u64 0, .int .u64 0, .bool false, .int .u64 0, .int .u64 0, .int .u16 0, .int .u16 0, .int .u8 0, .int .u32 0, .bool false] 32)) := Below.allocS (Below.refl _ _) _
  replace HO := Lib.hid HO
  go_enter Try.func13, Try.ntmps13
  go_upto_region 1 with (fail)
  generalize w.alloc (.cells #[.bool false, .int .u64 0, .int .u64 0, .bool false, .int .u64 0, .int .u64 0, .int .u16 0, .int .u16 0, .int .u8 0, .int .u32 0, .bool false] 32) = V at *
  go_wp2_with fail
  refine (HO.out _ be).mono ?_
  rintro e w1 ⟨A1, m1, k1, bs1, d1, rfl, rfl, -⟩
  go_upto_region 5 with (refine at_op (.store 29 (.tmp 7) (.tmp 17)) rfl ?_; refine wpList_stA (t := 29) 29 (.tmp 7) (.tmp 17) rfl rfl (flC s1 h1 l1 s2 h2 l2 0 0 p) (flC false 0 0 false 0 0 0 0 0) rfl (flC_one _ _ _ _ _ _ _ _ _) rfl rfl ?_ (szFl _ _ _ _ _ _ _ _ _) ?_; (· refine Bk.newK _ _ _ ?_ rfl; simp [size_plus]); intro W7 hF gr7)
  have zV := be.size
  have z4 := b4.lt
  have b7 := below_grown (Below.allocS (below_plus V bs1 d1) _) gr7 (by omega)
  replace be := be.trans (b7.mono zV)
  replace b4 := b4.later b7
  have yp : W7.cell? ⟨V.heap.size + bs1.length, 8, none⟩ = some (.int .u8 (p : Int)) := hF.cell 8
  have zF := hF.lt
  go_wp2_with (refine at_op (.store 32 (.tmp 4) (.tmp 32)) rfl ?_; refine wpList_stA (t := 32) 32 (.tmp 4) (.tmp 32) rfl rfl (qC false 0 0 false 0 0 0 0 0 0 false) (qC false 0 0 false 0 0 0 0 0 0 false) rfl (qC_one _ _ _ _ _ _ _ _ _ _ _) rfl rfl b4 (szQ _ _ _ _ _ _ _ _ _ _ _) ?_; intro W9 h9 g9)
  refine bodyPost_agg2 Try.results13 rfl rfl h9.range q1 q2 (szQ _ _ _ _ _ _ _ _ _ _ _) rfl (RetV.mk ?_)
  exact below_grown be g9 (by omega)
/- the rest: see the next text -/
set_option maxHeartbeats 4000000 in
set_option maxRecDepth 100000 in
theorem steRead6_bad (A : Option Addr) (n c : Nat) (w : World) (HO : ∀ w', Below w.heap.size w w' → Calls Try.prog 50 #[.slice A n c] w' (RetV w' (.tuple #[.agg (flC false 0 0 false 0 0 0 0 0).toArray, .slice none 0 0, .bool false]))) : Calls Try.prog 13 #[.slice A n c, .bool true] w (RetV w (.tuple #[.agg (qC false 0 0 false 0 0 0 0 0 0 false).toArray, .bool false])) := by
  obtain ⟨du, u1, u2⟩ := rowFl
  obtain ⟨dq, q1, q2⟩ := rowQ
  have b4 : Bk (w.alloc (.cells #[.bool false, .int .u64 0, .int .u64 0, .bool false, .int .u64 0, .int .u64 0, .int .u16 0, .int .u16 0, .int .u8 0, .int .u32 0, .bool false] 32)) w.heap.size 32 (qC false 0 0 false 0 0 0 0 0 0 false) := Bk.new w 32 #[.bool false, .int .u64 0, .int .u64 0, .bool false, .int .u64 0, .int .u64 0, .int .u16 0, .int .u16 0, .int .u8 0, .int .u32 0, .bool false]
  have be : Below w.heap.size w (w.alloc (.cells #[.bool false, .int .u64 0, .int .u64 0, .bool false, .int .u64 0, .int .u64 0, .int .u16 0, .int .u16 0, .int .u8 0, .int .u32 0, .bool false] 32)) := Below.allocS (Below.refl _ _) _
  replace HO := Lib.hid HO
  go_enter Try.func13, Try.ntmps13
  go_upto_region 1 with (fail)
  generalize w.alloc (.cells #[.bool false, .int .u64 0, .int .u64 0, .bool false, .int .u64 0, .int .u64 0, .int .u16 0, .int .u16 0, .int .u8 0, .int .u32 0, .bool false] 32) = V at *
  go_wp2_with fail
  refine (HO.out _ be).mono ?_
  rintro e w1 ⟨bs1, d1, rfl, rfl⟩
  go_upto_region 5 with (refine at_op (.store 29 (.tmp 7) (.tmp 17)) rfl ?_; refine wpList_stA (t := 29) 29 (.tmp 7) (.tmp 17) rfl rfl (flC false 0 0 false 0 0 0 0 0) (flC false 0 0 false 0 0 0 0 0) rfl (flC_one _ _ _ _ _ _ _ _ _) rfl rfl ?_ (szFl _ _ _ _ _ _ _ _ _) ?_; (· refine Bk.newK _ _ _ ?_ rfl; simp [size_plus]); intro W7 hF gr7)
  have zV := be.size
  have z4 := b4.lt
  have b7 := below_grown (Below.allocS (below_plus V bs1 d1) _) gr7 (by omega)
  replace be := be.trans (b7.mono zV)
  replace b4 := b4.later b7
  go_wp2_with (refine at_op (.store 32 (.tmp 4) (.tmp 32)) rfl ?_; refine wpList_stA (t := 32) 32 (.tmp 4) (.tmp 32) rfl rfl (qC false 0 0 false 0 0 0 0 0 0 false) (qC false 0 0 false 0 0 0 0 0 0 false) rfl (qC_one _ _ _ _ _ _ _ _ _ _ _) rfl rfl b4 (szQ _ _ _ _ _ _ _ _ _ _ _) ?_; intro W9 h9 g9)
  refine bodyPost_agg2 Try.results13 rfl rfl h9.range q1 q2 (szQ _ _ _ _ _ _ _ _ _ _ _) rfl (RetV.mk ?_)
  exact below_grown be g9 (by omega)
set_option maxHeartbeats 4000000 in
set_option maxRecDepth 100000 in
theorem steRead6_np (A : Option Addr) (n c : Nat) (s1 : Bool) (h1 l1 : Nat) (s2 : Bool) (h2 l2 p : Nat) (L : List UInt8) (w : World) (hp6 : p ≠ 6) (hp17 : p ≠ 17) (HO : ∀ w', Below w.heap.size w w' → Calls Try.prog 50 #[.slice A n c] w' (RetOp w' s1 h1 l1 s2 h2 l2 p L)) : Calls Try.prog 13 #[.slice A n c, .bool true] w (RetV w (.tuple #[.agg (qC false 0 0 false 0 0 0 0 0 0 false).toArray, .bool false])) := by
  have n6 : ((p : Int) != 6) = true := by rw [bne_iff_ne]; omega
  have n17 : ((p : Int) != 17) = true := by rw [bne_iff_ne]; omega
  clear hp6 hp17
  obtain ⟨du, u1, u2⟩ := rowFl
  obtain ⟨dq, q1, q2⟩ := rowQ
  have b4 : Bk (w.alloc (.cells #[.bool false, .int .u64 0, .int .u64 0, .bool false, .int .u64 0, .int .u64 0, .int .u16 0, .int .u16 0, .int .u8 0, .int .u32 0, .bool false] 32)) w.heap.size 32 (qC false 0 0 false 0 0 0 0 0 0 false) := Bk.new w 32 #[.bool false, .int .u64 0, .int .u64 0, .bool false, .int .u64 0, .int .u64 0, .int .u16 0, .int .u16 0, .int .u8 0, .int .u32 0, .bool false]
  have be : Below w.heap.size w (w.alloc (.cells #[.bool false, .int .u64 0, .int .u64 0, .bool false, .int .u64 0, .int .u64 0, .int .u16 0, .int .u16 0, .int .u8 0, .int .u32 0, .bool false] 32)) := Below.allocS (Below.refl _ _) _
  replace HO := Lib.hid HO
  go_enter Try.func13, Try.ntmps13
  go_upto_region 1 with (fail)
  generalize w.alloc (.cells #[.bool false, .int .u64 0, .int .u64 0, .bool false, .int .u64 0, .int .u64 0, .int .u16 0, .int .u16 0, .int .u8 0, .int .u32 0, .bool false] 32) = V at *
  go_wp2_with fail
  refine (HO.out _ be).mono ?_
  rintro e w1 ⟨A1, m1, k1, bs1, d1, rfl, rfl, -⟩
  go_upto_region 5 with (refine at_op (.store 29 (.tmp 7) (.tmp 17)) rfl ?_; refine wpList_stA (t := 29) 29 (.tmp 7) (.tmp 17) rfl rfl (flC s1 h1 l1 s2 h2 l2 0 0 p) (flC false 0 0 false 0 0 0 0 0) rfl (flC_one _ _ _ _ _ _ _ _ _) rfl rfl ?_ (szFl _ _ _ _ _ _ _ _ _) ?_; (· refine Bk.newK _ _ _ ?_ rfl; simp [size_plus]); intro W7 hF gr7)
  have zV := be.size
  have z4 := b4.lt
  have b7 := below_grown (Below.allocS (below_plus V bs1 d1) _) gr7 (by omega)
  replace be := be.trans (b7.mono zV)
  replace b4 := b4.later b7
  have yp : W7.cell? ⟨V.heap.size + bs1.length, 8, none⟩ = some (.int .u8 (p : Int)) := hF.cell 8
  have zF := hF.lt
  go_wp2_with (refine at_op (.store 32 (.tmp 4) (.tmp 32)) rfl ?_; refine wpList_stA (t := 32) 32 (.tmp 4) (.tmp 32) rfl rfl (qC false 0 0 false 0 0 0 0 0 0 false) (qC false 0 0 false 0 0 0 0 0 0 false) rfl (qC_one _ _ _ _ _ _ _ _ _ _ _) rfl rfl b4 (szQ _ _ _ _ _ _ _ _ _ _ _) ?_; intro W9 h9 g9)
  refine bodyPost_agg2 Try.results13 rfl rfl h9.range q1 q2 (szQ _ _ _ _ _ _ _ _ _ _ _) rfl (RetV.mk ?_)
  exact below_grown be g9 (by omega)
/- the rest: see the next text -/
end Go.Proofs.Ytfmkndemkpecpaa

/- steer.Read of what tells something (chapter 29). -/
namespace Go.Proofs.Ytfmkndemkpecpaa
open Go.RowKit
set_option linter.unusedVariables false
set_option linter.unusedSimpArgs false
attribute [local go_sem ↓] sliced_cut

attribute [local go_sem] cutA_zero

/-- a reader, where a cell that holds no byte was written into another block -/
theorem Rdr.farN {w w' : World} {r g : Nat} {l : List UInt8} {bad : Bool} (h : Rdr w r l bad) (hg : w.grownBy w' (some g)) (hne : g ≠ r) (fr : ∀ A n c l, Rb w A n c l → Rb w' A n c l) : Rdr w' r l bad := by
  have hlt := h.lt
  obtain ⟨A, n, c, h1, h2, h3, h4⟩ := h
  refine ⟨A, n, c, h1.grown hg (by simp; exact hne), h2, h3, ?_⟩
  have hb := fr A n c l ⟨h2, h3, h4.more (Nat.le_of_lt hlt)⟩
  rcases hb.2.2 with h5 | ⟨b, off, hA, _, hc⟩
  · exact .inl h5
  · rcases h4 with h6 | ⟨b', off', hA', hb', _⟩
    · exact .inl h6
    · rw [hA] at hA'
      injection hA' with hA'
      injection hA' with e1 e2
      subst e1
      exact .inr ⟨b, off, hA, hb', hc⟩
set_option maxHeartbeats 4000000 in
set_option maxRecDepth 100000 in
theorem steRead4_17 (A : Option Addr) (n c : Nat) (s1 : Bool) (h1 l1 : Nat) (s2 : Bool) (h2 l2 sp dp : Nat) (L : List UInt8) (w : World) (h8L : 8 ≤ L.length) (hsp : num ((L.drop 0).take 2) = sp) (hdp : num ((L.drop 2).take 2) = dp)  (HO : ∀ w', Below w.heap.size w w' → Calls Try.prog 49 #[.slice A n c] w' (RetOp w' s1 h1 l1 s2 h2 l2 17 L)) : Calls Try.prog 13 #[.slice A n c, .bool false] w (RetV w (.tuple #[.agg (qC s1 h1 l1 s2 h2 l2 sp dp 17 0 false).toArray, .bool true])) := by
  obtain ⟨du, u1, u2⟩ := rowFl
  obtain ⟨dq, q1, q2⟩ := rowQ
  have b4 : Bk (w.alloc (.cells #[.bool false, .int .u64 0, .int .u64 0, .bool false, .int .u64 0, .int .u64 0, .int .u16 0, .int .u16 0, .int .u8 0, .int .u32 0, .bool false] 32)) w.heap.size 32 (qC false 0 0 false 0 0 0 0 0 0 false) := Bk.new w 32 #[.bool false, .int .u64 0, .int .u64 0, .bool false, .int .u64 0, .int .u64 0, .int .u16 0, .int .u16 0, .int .u8 0, .int .u32 0, .bool false]
  have be : Below w.heap.size w (w.alloc (.cells #[.bool false, .int .u64 0, .int .u64 0, .bool false, .int .u64 0, .int .u64 0, .int .u16 0, .int .u16 0, .int .u8 0, .int .u32 0, .bool false] 32)) := Below.allocS (Below.refl _ _) _
  replace HO := Lib.hid HO
  go_enter Try.func13, Try.ntmps13
  go_upto_region 1 with (fail)
  generalize w.alloc (.cells #[.bool false, .int .u64 0, .int .u64 0, .bool false, .int .u64 0, .int .u64 0, .int .u16 0, .int .u16 0, .int .u8 0, .int .u32 0, .bool false] 32) = V at *
  go_wp2_with fail
  refine (HO.out _ be).mono ?_
  rintro e w1 ⟨A1, m1, k1, bs1, d1, rfl, rfl, hL⟩
  go_upto_region 5 with (refine at_op (.store 29 (.tmp 7) (.tmp 17)) rfl ?_; refine wpList_stA (t := 29) 29 (.tmp 7) (.tmp 17) rfl rfl (flC s1 h1 l1 s2 h2 l2 0 0 17) (flC false 0 0 false 0 0 0 0 0) rfl (flC_one _ _ _ _ _ _ _ _ _) rfl rfl ?_ (szFl _ _ _ _ _ _ _ _ _) ?_; (· refine Bk.newK _ _ _ ?_ rfl; simp [size_plus]); intro W7 hF gr7)
  have zV := be.size
  have z4 := b4.lt
  have b7 := below_grown (Below.allocS (below_plus V bs1 d1) _) gr7 (by omega)
  replace be := be.trans (b7.mono zV)
  replace b4 := b4.later b7
  have zF0 : w.heap.size < V.heap.size + bs1.length := by omega
  replace hL := hL.later (below_grown (Below.allocS (Below.refl _ _) _) gr7 (by simp [size_plus]))
  clear b7 gr7
  generalize V.heap.size + bs1.length = g7 at *
  obtain rfl : L.length = m1 := hL.1
  obtain ⟨bL, oL, rfl, hbL, -⟩ := hL.2.2.at_ (by rw [bcs_length]; omega)
  have hcL := hL.2.1
  have j1 : (8 : Int) ≤ (k1 : Int) := by omega
  have j2 : (8 : Int) ≤ (L.length : Int) := by omega
  have h8 : Rb W7 (some ⟨bL, oL, none⟩) 8 k1 (L.take 8) := hL.take (by omega)
  have yp : W7.cell? ⟨g7, 8, none⟩ = some (.int .u8 (17 : Int)) := hF.cell 8
  have zF := hF.lt
  go_wp2_with fail
  refine (readK _ _ _ _ W7 h8 (by decide)).mono ?_
  rintro e w1 ⟨r, bs2, d2, rfl, rfl, hr2, hR⟩
  have zb2 := be.size
  replace b4 := b4.later (below_plus _ bs2 d2)
  replace hF := hF.later (below_plus _ bs2 d2)
  replace hL := hL.plus_ bs2 d2
  replace be := belowP be bs2 d2
  have hrL : ∀ a, some (⟨bL, oL, none⟩ : Addr) = some a → a.block ≠ r := fun a ha => by injection ha with ha; subst ha; show bL ≠ r; omega
  have hr4 : w.heap.size < r := by omega
  have hr7 : g7 ≠ r := by omega
  generalize plus W7 bs2 d2 = W8 at *
  have l8 : (L.take 8).length = 8 := by rw [List.length_take]; omega
  have x0 : Hid (num (((L.take 8).drop 0).take 2) = sp) := Lib.hid (by rw [num_in L 8 0 2 (by decide)]; exact hsp)
  have x1 : Hid (num (((L.take 8).drop 2).take 2) = dp) := Lib.hid (by rw [num_in L 8 2 2 (by decide)]; exact hdp)
  clear yp zF h8 hr2 hbL
  go_wp2_with fail
  refine (wordG W8 r (L.take 8) 0 sp hR (by omega) (by omega) x0.out).mono ?_
  rintro e W9 ⟨rfl, hR1, hg1⟩
  replace b4 := b4.grown hg1 (by simp; omega)
  replace hF := hF.grown hg1 (by simp; omega)
  replace hL := hL.grownO hg1 hrL
  replace be := below_grown be hg1 (by omega)
  clear hg1 hR
  have zF := hF.lt
  go_upto_region 9 with (refine at_op (.store 27 (.tmp 38) (.tmp 37)) rfl ?_; refine wpList_st1R 27 (.tmp 38) (.tmp 37) rfl rfl rfl rfl hF rfl (by intro x h; cases h) rfl (by kernel_rfl) ?_; intro W10 hF2 gr2 fr2)
  replace b4 := b4.grown gr2 (by simp; omega)
  replace hR1 := hR1.farN gr2 hr7 fr2
  replace hL := fr2 _ _ _ _ hL
  replace be := below_grown be gr2 (by omega)
  clear hF gr2 fr2 zF
  go_wp2_with fail
  refine (wordG W10 r (L.take 8) 2 dp hR1 (by omega) (by omega) x1.out).mono ?_
  rintro e W11 ⟨rfl, hR2, hg1⟩
  replace b4 := b4.grown hg1 (by simp; omega)
  replace hF2 := hF2.grown hg1 (by simp; omega)
  replace hL := hL.grownO hg1 hrL
  replace be := below_grown be hg1 (by omega)
  clear hg1 hR1
  go_upto_region 10 with (refine at_op (.store 27 (.tmp 41) (.tmp 40)) rfl ?_; refine wpList_st1R 27 (.tmp 41) (.tmp 40) rfl rfl rfl rfl hF2 rfl (by intro x h; cases h) rfl (by kernel_rfl) ?_; intro W12 hF3 gr3 fr3)
  replace b4 := b4.grown gr3 (by simp; omega)
  replace hL := fr3 _ _ _ _ hL
  replace be := below_grown be gr3 (by omega)
  clear hF2 gr3 fr3 hR2
  replace hF3 : Bk W12 g7 29 ([.bool s1, .int .u64 (h1 : Int), .int .u64 (l1 : Int), .bool s2, .int .u64 (h2 : Int), .int .u64 (l2 : Int), .int .u16 (sp : Int), .int .u16 (dp : Int), .int .u8 (17 : Int)]) := hF3
  have z4' := b4.lt
  go_upto_region 11 with (first
    | (refine at_op (.load 29 (.tmp 7)) rfl ?_; refine wpList_ldA (t := 29) 29 (.tmp 7) rfl rfl ([.bool s1, .int .u64 (h1 : Int), .int .u64 (l1 : Int), .bool s2, .int .u64 (h2 : Int), .int .u64 (l2 : Int), .int .u16 (sp : Int), .int .u16 (dp : Int), .int .u8 (17 : Int)]) rfl (hF3) (whole_ _) u1 u2 (szFl s1 h1 l1 s2 h2 l2 sp dp 17) ?_)
    | (refine at_op (.store 32 (.tmp 11) (.tmp 43)) rfl ?_; refine wpList_stA (t := 32) 32 (.tmp 11) (.tmp 43) rfl rfl (qC s1 h1 l1 s2 h2 l2 sp dp 17 0 false) (qC false 0 0 false 0 0 0 0 0 0 false) rfl (qC_one _ _ _ _ _ _ _ _ _ _ _) rfl rfl ?_ (szQ _ _ _ _ _ _ _ _ _ _ _) ?_; (· refine Bk.newK _ _ _ ?_ rfl; simp [size_plus]); intro W13 hQ gr13))
  have z12 := be.size
  have b13 := below_grown (Below.allocS (Below.refl _ _) _) gr13 (Nat.le_refl _)
  replace be := be.trans (b13.mono z12)
  replace b4 := b4.later b13
  replace hF3 := hF3.later b13
  replace hL := hL.later b13
  clear b13 gr13
  generalize W12.heap.size = g11 at *
  have yp : W13.cell? ⟨g7, 8, none⟩ = some (.int .u8 (17 : Int)) := hF3.cell 8
  have zF := hF3.lt
  go_wp2_with (first | (refine at_op (.load 32 (.tmp 11)) rfl ?_; refine wpList_ldA (t := 32) 32 (.tmp 11) rfl rfl (qC s1 h1 l1 s2 h2 l2 sp dp 17 0 false) rfl (hQ) (whole_ _) q1 q2 (szQ _ _ _ _ _ _ _ _ _ _ _) ?_) | (refine at_op (.store 32 (.tmp 4) (.tmp 54)) rfl ?_; refine wpList_stA (t := 32) 32 (.tmp 4) (.tmp 54) rfl rfl (qC s1 h1 l1 s2 h2 l2 sp dp 17 0 false) (qC false 0 0 false 0 0 0 0 0 0 false) rfl (qC_one _ _ _ _ _ _ _ _ _ _ _) rfl rfl b4 (szQ _ _ _ _ _ _ _ _ _ _ _) ?_; intro W9 h9 g9))
  refine bodyPost_agg2 Try.results13 rfl rfl h9.range q1 q2 (szQ _ _ _ _ _ _ _ _ _ _ _) rfl (RetV.mk ?_)
  exact below_grown be g9 (by omega)
set_option maxHeartbeats 4000000 in
set_option maxRecDepth 100000 in
theorem steRead4_6 (A : Option Addr) (n c : Nat) (s1 : Bool) (h1 l1 : Nat) (s2 : Bool) (h2 l2 sp dp : Nat) (L : List UInt8) (w : World) (h8L : 8 ≤ L.length) (hsp : num ((L.drop 0).take 2) = sp) (hdp : num ((L.drop 2).take 2) = dp) (v : Nat) (has : Bool) (HST : ∀ w' A n c, Rb w' A n c L → Calls Try.prog 53 #[.slice A n c] w' (RetV w' (.tuple #[.int .u32 (v : Int), .bool has]))) (HO : ∀ w', Below w.heap.size w w' → Calls Try.prog 49 #[.slice A n c] w' (RetOp w' s1 h1 l1 s2 h2 l2 6 L)) : Calls Try.prog 13 #[.slice A n c, .bool false] w (RetV w (.tuple #[.agg (qC s1 h1 l1 s2 h2 l2 sp dp 6 v has).toArray, .bool true])) := by
  replace HST := Lib.hid HST
  obtain ⟨du, u1, u2⟩ := rowFl
  obtain ⟨dq, q1, q2⟩ := rowQ
  have b4 : Bk (w.alloc (.cells #[.bool false, .int .u64 0, .int .u64 0, .bool false, .int .u64 0, .int .u64 0, .int .u16 0, .int .u16 0, .int .u8 0, .int .u32 0, .bool false] 32)) w.heap.size 32 (qC false 0 0 false 0 0 0 0 0 0 false) := Bk.new w 32 #[.bool false, .int .u64 0, .int .u64 0, .bool false, .int .u64 0, .int .u64 0, .int .u16 0, .int .u16 0, .int .u8 0, .int .u32 0, .bool false]
  have be : Below w.heap.size w (w.alloc (.cells #[.bool false, .int .u64 0, .int .u64 0, .bool false, .int .u64 0, .int .u64 0, .int .u16 0, .int .u16 0, .int .u8 0, .int .u32 0, .bool false] 32)) := Below.allocS (Below.refl _ _) _
  replace HO := Lib.hid HO
  go_enter Try.func13, Try.ntmps13
  go_upto_region 1 with (fail)
  generalize w.alloc (.cells #[.bool false, .int .u64 0, .int .u64 0, .bool false, .int .u64 0, .int .u64 0, .int .u16 0, .int .u16 0, .int .u8 0, .int .u32 0, .bool false] 32) = V at *
  go_wp2_with fail
  refine (HO.out _ be).mono ?_
  rintro e w1 ⟨A1, m1, k1, bs1, d1, rfl, rfl, hL⟩
  go_upto_region 5 with (refine at_op (.store 29 (.tmp 7) (.tmp 17)) rfl ?_; refine wpList_stA (t := 29) 29 (.tmp 7) (.tmp 17) rfl rfl (flC s1 h1 l1 s2 h2 l2 0 0 6) (flC false 0 0 false 0 0 0 0 0) rfl (flC_one _ _ _ _ _ _ _ _ _) rfl rfl ?_ (szFl _ _ _ _ _ _ _ _ _) ?_; (· refine Bk.newK _ _ _ ?_ rfl; simp [size_plus]); intro W7 hF gr7)
  have zV := be.size
  have z4 := b4.lt
  have b7 := below_grown (Below.allocS (below_plus V bs1 d1) _) gr7 (by omega)
  replace be := be.trans (b7.mono zV)
  replace b4 := b4.later b7
  have zF0 : w.heap.size < V.heap.size + bs1.length := by omega
  replace hL := hL.later (below_grown (Below.allocS (Below.refl _ _) _) gr7 (by simp [size_plus]))
  clear b7 gr7
  generalize V.heap.size + bs1.length = g7 at *
  obtain rfl : L.length = m1 := hL.1
  obtain ⟨bL, oL, rfl, hbL, -⟩ := hL.2.2.at_ (by rw [bcs_length]; omega)
  have hcL := hL.2.1
  have j1 : (8 : Int) ≤ (k1 : Int) := by omega
  have j2 : (8 : Int) ≤ (L.length : Int) := by omega
  have h8 : Rb W7 (some ⟨bL, oL, none⟩) 8 k1 (L.take 8) := hL.take (by omega)
  have yp : W7.cell? ⟨g7, 8, none⟩ = some (.int .u8 (6 : Int)) := hF.cell 8
  have zF := hF.lt
  go_wp2_with fail
  refine (readK _ _ _ _ W7 h8 (by decide)).mono ?_
  rintro e w1 ⟨r, bs2, d2, rfl, rfl, hr2, hR⟩
  have zb2 := be.size
  replace b4 := b4.later (below_plus _ bs2 d2)
  replace hF := hF.later (below_plus _ bs2 d2)
  replace hL := hL.plus_ bs2 d2
  replace be := belowP be bs2 d2
  have hrL : ∀ a, some (⟨bL, oL, none⟩ : Addr) = some a → a.block ≠ r := fun a ha => by injection ha with ha; subst ha; show bL ≠ r; omega
  have hr4 : w.heap.size < r := by omega
  have hr7 : g7 ≠ r := by omega
  generalize plus W7 bs2 d2 = W8 at *
  have l8 : (L.take 8).length = 8 := by rw [List.length_take]; omega
  have x0 : Hid (num (((L.take 8).drop 0).take 2) = sp) := Lib.hid (by rw [num_in L 8 0 2 (by decide)]; exact hsp)
  have x1 : Hid (num (((L.take 8).drop 2).take 2) = dp) := Lib.hid (by rw [num_in L 8 2 2 (by decide)]; exact hdp)
  clear yp zF h8 hr2 hbL
  go_wp2_with fail
  refine (wordG W8 r (L.take 8) 0 sp hR (by omega) (by omega) x0.out).mono ?_
  rintro e W9 ⟨rfl, hR1, hg1⟩
  replace b4 := b4.grown hg1 (by simp; omega)
  replace hF := hF.grown hg1 (by simp; omega)
  replace hL := hL.grownO hg1 hrL
  replace be := below_grown be hg1 (by omega)
  clear hg1 hR
  have zF := hF.lt
  go_upto_region 9 with (refine at_op (.store 27 (.tmp 38) (.tmp 37)) rfl ?_; refine wpList_st1R 27 (.tmp 38) (.tmp 37) rfl rfl rfl rfl hF rfl (by intro x h; cases h) rfl (by kernel_rfl) ?_; intro W10 hF2 gr2 fr2)
  replace b4 := b4.grown gr2 (by simp; omega)
  replace hR1 := hR1.farN gr2 hr7 fr2
  replace hL := fr2 _ _ _ _ hL
  replace be := below_grown be gr2 (by omega)
  clear hF gr2 fr2 zF
  go_wp2_with fail
  refine (wordG W10 r (L.take 8) 2 dp hR1 (by omega) (by omega) x1.out).mono ?_
  rintro e W11 ⟨rfl, hR2, hg1⟩
  replace b4 := b4.grown hg1 (by simp; omega)
  replace hF2 := hF2.grown hg1 (by simp; omega)
  replace hL := hL.grownO hg1 hrL
  replace be := below_grown be hg1 (by omega)
  clear hg1 hR1
  go_upto_region 10 with (refine at_op (.store 27 (.tmp 41) (.tmp 40)) rfl ?_; refine wpList_st1R 27 (.tmp 41) (.tmp 40) rfl rfl rfl rfl hF2 rfl (by intro x h; cases h) rfl (by kernel_rfl) ?_; intro W12 hF3 gr3 fr3)
  replace b4 := b4.grown gr3 (by simp; omega)
  replace hL := fr3 _ _ _ _ hL
  replace be := below_grown be gr3 (by omega)
  clear hF2 gr3 fr3 hR2
  replace hF3 : Bk W12 g7 29 ([.bool s1, .int .u64 (h1 : Int), .int .u64 (l1 : Int), .bool s2, .int .u64 (h2 : Int), .int .u64 (l2 : Int), .int .u16 (sp : Int), .int .u16 (dp : Int), .int .u8 (6 : Int)]) := hF3
  have z4' := b4.lt
  go_upto_region 11 with (first
    | (refine at_op (.load 29 (.tmp 7)) rfl ?_; refine wpList_ldA (t := 29) 29 (.tmp 7) rfl rfl ([.bool s1, .int .u64 (h1 : Int), .int .u64 (l1 : Int), .bool s2, .int .u64 (h2 : Int), .int .u64 (l2 : Int), .int .u16 (sp : Int), .int .u16 (dp : Int), .int .u8 (6 : Int)]) rfl (hF3) (whole_ _) u1 u2 (szFl s1 h1 l1 s2 h2 l2 sp dp 6) ?_)
    | (refine at_op (.store 32 (.tmp 11) (.tmp 43)) rfl ?_; refine wpList_stA (t := 32) 32 (.tmp 11) (.tmp 43) rfl rfl (qC s1 h1 l1 s2 h2 l2 sp dp 6 0 false) (qC false 0 0 false 0 0 0 0 0 0 false) rfl (qC_one _ _ _ _ _ _ _ _ _ _ _) rfl rfl ?_ (szQ _ _ _ _ _ _ _ _ _ _ _) ?_; (· refine Bk.newK _ _ _ ?_ rfl; simp [size_plus]); intro W13 hQ gr13))
  have z12 := be.size
  have b13 := below_grown (Below.allocS (Below.refl _ _) _) gr13 (Nat.le_refl _)
  replace be := be.trans (b13.mono z12)
  replace b4 := b4.later b13
  replace hF3 := hF3.later b13
  replace hL := hL.later b13
  clear b13 gr13
  generalize W12.heap.size = g11 at *
  have yp : W13.cell? ⟨g7, 8, none⟩ = some (.int .u8 (6 : Int)) := hF3.cell 8
  have zF := hF3.lt
  have h11 : w.heap.size < g11 := by omega
  go_wp2_with fail
  refine (HST.out _ _ _ _ hL).mono ?_
  rintro e w1 ⟨bs5, d5, rfl, rfl⟩
  replace b4 := b4.later (below_plus _ bs5 d5)
  replace hQ := hQ.later (below_plus _ bs5 d5)
  replace be := belowP be bs5 d5
  clear hL yp zF hF3
  generalize plus W13 bs5 d5 = W14 at *
  go_upto_region 13 with (first
    | (refine at_op (.store 30 (.tmp 52) (.tmp 50)) rfl ?_; refine wpList_st1R 30 (.tmp 52) (.tmp 50) rfl rfl rfl rfl hQ rfl (by intro x h; cases h) rfl (by kernel_rfl) ?_; intro W15 hQ2 gr5 fr5)
    | (refine at_op (.store 4 (.tmp 53) (.tmp 51)) rfl ?_; refine wpList_st1R 4 (.tmp 53) (.tmp 51) rfl rfl rfl rfl hQ2 rfl (by intro x h; cases h) rfl (by kernel_rfl) ?_; intro W16 hQ3 gr6 fr6))
  replace b4 := (b4.grown gr5 (by simp; omega)).grown gr6 (by simp; omega)
  replace be := below_grown (below_grown be gr5 (by omega)) gr6 (by omega)
  replace hQ : Bk W16 g11 32 (qC s1 h1 l1 s2 h2 l2 sp dp 6 v has) := hQ3
  clear gr5 gr6 fr5 fr6 hQ2 hQ3
  go_wp2_with (first | (refine at_op (.load 32 (.tmp 11)) rfl ?_; refine wpList_ldA (t := 32) 32 (.tmp 11) rfl rfl (qC s1 h1 l1 s2 h2 l2 sp dp 6 v has) rfl (hQ) (whole_ _) q1 q2 (szQ _ _ _ _ _ _ _ _ _ _ _) ?_) | (refine at_op (.store 32 (.tmp 4) (.tmp 54)) rfl ?_; refine wpList_stA (t := 32) 32 (.tmp 4) (.tmp 54) rfl rfl (qC s1 h1 l1 s2 h2 l2 sp dp 6 v has) (qC false 0 0 false 0 0 0 0 0 0 false) rfl (qC_one _ _ _ _ _ _ _ _ _ _ _) rfl rfl b4 (szQ _ _ _ _ _ _ _ _ _ _ _) ?_; intro W9 h9 g9))
  refine bodyPost_agg2 Try.results13 rfl rfl h9.range q1 q2 (szQ _ _ _ _ _ _ _ _ _ _ _) rfl (RetV.mk ?_)
  exact below_grown be g9 (by omega)
set_option maxHeartbeats 4000000 in
set_option maxRecDepth 100000 in
theorem steRead6_17 (A : Option Addr) (n c : Nat) (s1 : Bool) (h1 l1 : Nat) (s2 : Bool) (h2 l2 sp dp : Nat) (L : List UInt8) (w : World) (h8L : 8 ≤ L.length) (hsp : num ((L.drop 0).take 2) = sp) (hdp : num ((L.drop 2).take 2) = dp)  (HO : ∀ w', Below w.heap.size w w' → Calls Try.prog 50 #[.slice A n c] w' (RetOp w' s1 h1 l1 s2 h2 l2 17 L)) : Calls Try.prog 13 #[.slice A n c, .bool true] w (RetV w (.tuple #[.agg (qC s1 h1 l1 s2 h2 l2 sp dp 17 0 false).toArray, .bool true])) := by
  obtain ⟨du, u1, u2⟩ := rowFl
  obtain ⟨dq, q1, q2⟩ := rowQ
  have b4 : Bk (w.alloc (.cells #[.bool false, .int .u64 0, .int .u64 0, .bool false, .int .u64 0, .int .u64 0, .int .u16 0, .int .u16 0, .int .u8 0, .int .u32 0, .bool false] 32)) w.heap.size 32 (qC false 0 0 false 0 0 0 0 0 0 false) := Bk.new w 32 #[.bool false, .int .u64 0, .int .u64 0, .bool false, .int .u64 0, .int .u64 0, .int .u16 0, .int .u16 0, .int .u8 0, .int .u32 0, .bool false]
  have be : Below w.heap.size w (w.alloc (.cells #[.bool false, .int .u64 0, .int .u64 0, .bool false, .int .u64 0, .int .u64 0, .int .u16 0, .int .u16 0, .int .u8 0, .int .u32 0, .bool false] 32)) := Below.allocS (Below.refl _ _) _
  replace HO := Lib.hid HO
  go_enter Try.func13, Try.ntmps13
  go_upto_region 1 with (fail)
  generalize w.alloc (.cells #[.bool false, .int .u64 0, .int .u64 0, .bool false, .int .u64 0, .int .u64 0, .int .u16 0, .int .u16 0, .int .u8 0, .int .u32 0, .bool false] 32) = V at *
  go_wp2_with fail
  refine (HO.out _ be).mono ?_
  rintro e w1 ⟨A1, m1, k1, bs1, d1, rfl, rfl, hL⟩
  go_upto_region 5 with (refine at_op (.store 29 (.tmp 7) (.tmp 17)) rfl ?_; refine wpList_stA (t := 29) 29 (.tmp 7) (.tmp 17) rfl rfl (flC s1 h1 l1 s2 h2 l2 0 0 17) (flC false 0 0 false 0 0 0 0 0) rfl (flC_one _ _ _ _ _ _ _ _ _) rfl rfl ?_ (szFl _ _ _ _ _ _ _ _ _) ?_; (· refine Bk.newK _ _ _ ?_ rfl; simp [size_plus]); intro W7 hF gr7)
  have zV := be.size
  have z4 := b4.lt
  have b7 := below_grown (Below.allocS (below_plus V bs1 d1) _) gr7 (by omega)
  replace be := be.trans (b7.mono zV)
  replace b4 := b4.later b7
  have zF0 : w.heap.size < V.heap.size + bs1.length := by omega
  replace hL := hL.later (below_grown (Below.allocS (Below.refl _ _) _) gr7 (by simp [size_plus]))
  clear b7 gr7
  generalize V.heap.size + bs1.length = g7 at *
  obtain rfl : L.length = m1 := hL.1
  obtain ⟨bL, oL, rfl, hbL, -⟩ := hL.2.2.at_ (by rw [bcs_length]; omega)
  have hcL := hL.2.1
  have j1 : (8 : Int) ≤ (k1 : Int) := by omega
  have j2 : (8 : Int) ≤ (L.length : Int) := by omega
  have h8 : Rb W7 (some ⟨bL, oL, none⟩) 8 k1 (L.take 8) := hL.take (by omega)
  have yp : W7.cell? ⟨g7, 8, none⟩ = some (.int .u8 (17 : Int)) := hF.cell 8
  have zF := hF.lt
  go_wp2_with fail
  refine (readK _ _ _ _ W7 h8 (by decide)).mono ?_
  rintro e w1 ⟨r, bs2, d2, rfl, rfl, hr2, hR⟩
  have zb2 := be.size
  replace b4 := b4.later (below_plus _ bs2 d2)
  replace hF := hF.later (below_plus _ bs2 d2)
  replace hL := hL.plus_ bs2 d2
  replace be := belowP be bs2 d2
  have hrL : ∀ a, some (⟨bL, oL, none⟩ : Addr) = some a → a.block ≠ r := fun a ha => by injection ha with ha; subst ha; show bL ≠ r; omega
  have hr4 : w.heap.size < r := by omega
  have hr7 : g7 ≠ r := by omega
  generalize plus W7 bs2 d2 = W8 at *
  have l8 : (L.take 8).length = 8 := by rw [List.length_take]; omega
  have x0 : Hid (num (((L.take 8).drop 0).take 2) = sp) := Lib.hid (by rw [num_in L 8 0 2 (by decide)]; exact hsp)
  have x1 : Hid (num (((L.take 8).drop 2).take 2) = dp) := Lib.hid (by rw [num_in L 8 2 2 (by decide)]; exact hdp)
  clear yp zF h8 hr2 hbL
  go_wp2_with fail
  refine (wordG W8 r (L.take 8) 0 sp hR (by omega) (by omega) x0.out).mono ?_
  rintro e W9 ⟨rfl, hR1, hg1⟩
  replace b4 := b4.grown hg1 (by simp; omega)
  replace hF := hF.grown hg1 (by simp; omega)
  replace hL := hL.grownO hg1 hrL
  replace be := below_grown be hg1 (by omega)
  clear hg1 hR
  have zF := hF.lt
  go_upto_region 9 with (refine at_op (.store 27 (.tmp 38) (.tmp 37)) rfl ?_; refine wpList_st1R 27 (.tmp 38) (.tmp 37) rfl rfl rfl rfl hF rfl (by intro x h; cases h) rfl (by kernel_rfl) ?_; intro W10 hF2 gr2 fr2)
  replace b4 := b4.grown gr2 (by simp; omega)
  replace hR1 := hR1.farN gr2 hr7 fr2
  replace hL := fr2 _ _ _ _ hL
  replace be := below_grown be gr2 (by omega)
  clear hF gr2 fr2 zF
  go_wp2_with fail
  refine (wordG W10 r (L.take 8) 2 dp hR1 (by omega) (by omega) x1.out).mono ?_
  rintro e W11 ⟨rfl, hR2, hg1⟩
  replace b4 := b4.grown hg1 (by simp; omega)
  replace hF2 := hF2.grown hg1 (by simp; omega)
  replace hL := hL.grownO hg1 hrL
  replace be := below_grown be hg1 (by omega)
  clear hg1 hR1
  go_upto_region 10 with (refine at_op (.store 27 (.tmp 41) (.tmp 40)) rfl ?_; refine wpList_st1R 27 (.tmp 41) (.tmp 40) rfl rfl rfl rfl hF2 rfl (by intro x h; cases h) rfl (by kernel_rfl) ?_; intro W12 hF3 gr3 fr3)
  replace b4 := b4.grown gr3 (by simp; omega)
  replace hL := fr3 _ _ _ _ hL
  replace be := below_grown be gr3 (by omega)
  clear hF2 gr3 fr3 hR2
  replace hF3 : Bk W12 g7 29 ([.bool s1, .int .u64 (h1 : Int), .int .u64 (l1 : Int), .bool s2, .int .u64 (h2 : Int), .int .u64 (l2 : Int), .int .u16 (sp : Int), .int .u16 (dp : Int), .int .u8 (17 : Int)]) := hF3
  have z4' := b4.lt
  go_upto_region 11 with (first
    | (refine at_op (.load 29 (.tmp 7)) rfl ?_; refine wpList_ldA (t := 29) 29 (.tmp 7) rfl rfl ([.bool s1, .int .u64 (h1 : Int), .int .u64 (l1 : Int), .bool s2, .int .u64 (h2 : Int), .int .u64 (l2 : Int), .int .u16 (sp : Int), .int .u16 (dp : Int), .int .u8 (17 : Int)]) rfl (hF3) (whole_ _) u1 u2 (szFl s1 h1 l1 s2 h2 l2 sp dp 17) ?_)
    | (refine at_op (.store 32 (.tmp 11) (.tmp 43)) rfl ?_; refine wpList_stA (t := 32) 32 (.tmp 11) (.tmp 43) rfl rfl (qC s1 h1 l1 s2 h2 l2 sp dp 17 0 false) (qC false 0 0 false 0 0 0 0 0 0 false) rfl (qC_one _ _ _ _ _ _ _ _ _ _ _) rfl rfl ?_ (szQ _ _ _ _ _ _ _ _ _ _ _) ?_; (· refine Bk.newK _ _ _ ?_ rfl; simp [size_plus]); intro W13 hQ gr13))
  have z12 := be.size
  have b13 := below_grown (Below.allocS (Below.refl _ _) _) gr13 (Nat.le_refl _)
  replace be := be.trans (b13.mono z12)
  replace b4 := b4.later b13
  replace hF3 := hF3.later b13
  replace hL := hL.later b13
  clear b13 gr13
  generalize W12.heap.size = g11 at *
  have yp : W13.cell? ⟨g7, 8, none⟩ = some (.int .u8 (17 : Int)) := hF3.cell 8
  have zF := hF3.lt
  go_wp2_with (first | (refine at_op (.load 32 (.tmp 11)) rfl ?_; refine wpList_ldA (t := 32) 32 (.tmp 11) rfl rfl (qC s1 h1 l1 s2 h2 l2 sp dp 17 0 false) rfl (hQ) (whole_ _) q1 q2 (szQ _ _ _ _ _ _ _ _ _ _ _) ?_) | (refine at_op (.store 32 (.tmp 4) (.tmp 54)) rfl ?_; refine wpList_stA (t := 32) 32 (.tmp 4) (.tmp 54) rfl rfl (qC s1 h1 l1 s2 h2 l2 sp dp 17 0 false) (qC false 0 0 false 0 0 0 0 0 0 false) rfl (qC_one _ _ _ _ _ _ _ _ _ _ _) rfl rfl b4 (szQ _ _ _ _ _ _ _ _ _ _ _) ?_; intro W9 h9 g9))
  refine bodyPost_agg2 Try.results13 rfl rfl h9.range q1 q2 (szQ _ _ _ _ _ _ _ _ _ _ _) rfl (RetV.mk ?_)
  exact below_grown be g9 (by omega)
set_option maxHeartbeats 4000000 in
set_option maxRecDepth 100000 in
theorem steRead6_6 (A : Option Addr) (n c : Nat) (s1 : Bool) (h1 l1 : Nat) (s2 : Bool) (h2 l2 sp dp : Nat) (L : List UInt8) (w : World) (h8L : 8 ≤ L.length) (hsp : num ((L.drop 0).take 2) = sp) (hdp : num ((L.drop 2).take 2) = dp) (v : Nat) (has : Bool) (HST : ∀ w' A n c, Rb w' A n c L → Calls Try.prog 53 #[.slice A n c] w' (RetV w' (.tuple #[.int .u32 (v : Int), .bool has]))) (HO : ∀ w', Below w.heap.size w w' → Calls Try.prog 50 #[.slice A n c] w' (RetOp w' s1 h1 l1 s2 h2 l2 6 L)) : Calls Try.prog 13 #[.slice A n c, .bool true] w (RetV w (.tuple #[.agg (qC s1 h1 l1 s2 h2 l2 sp dp 6 v has).toArray, .bool true])) := by
  replace HST := Lib.hid HST
  obtain ⟨du, u1, u2⟩ := rowFl
  obtain ⟨dq, q1, q2⟩ := rowQ
  have b4 : Bk (w.alloc (.cells #[.bool false, .int .u64 0, .int .u64 0, .bool false, .int .u64 0, .int .u64 0, .int .u16 0, .int .u16 0, .int .u8 0, .int .u32 0, .bool false] 32)) w.heap.size 32 (qC false 0 0 false 0 0 0 0 0 0 false) := Bk.new w 32 #[.bool false, .int .u64 0, .int .u64 0, .bool false, .int .u64 0, .int .u64 0, .int .u16 0, .int .u16 0, .int .u8 0, .int .u32 0, .bool false]
  have be : Below w.heap.size w (w.alloc (.cells #[.bool false, .int .u64 0, .int .u64 0, .bool false, .int .u64 0, .int .u64 0, .int .u16 0, .int .u16 0, .int .u8 0, .int .u32 0, .bool false] 32)) := Below.allocS (Below.refl _ _) _
  replace HO := Lib.hid HO
  go_enter Try.func13, Try.ntmps13
  go_upto_region 1 with (fail)
  generalize w.alloc (.cells #[.bool false, .int .u64 0, .int .u64 0, .bool false, .int .u64 0, .int .u64 0, .int .u16 0, .int .u16 0, .int .u8 0, .int .u32 0, .bool false] 32) = V at *
  go_wp2_with fail
  refine (HO.out _ be).mono ?_
  rintro e w1 ⟨A1, m1, k1, bs1, d1, rfl, rfl, hL⟩
  go_upto_region 5 with (refine at_op (.store 29 (.tmp 7) (.tmp 17)) rfl ?_; refine wpList_stA (t := 29) 29 (.tmp 7) (.tmp 17) rfl rfl (flC s1 h1 l1 s2 h2 l2 0 0 6) (flC false 0 0 false 0 0 0 0 0) rfl (flC_one _ _ _ _ _ _ _ _ _) rfl rfl ?_ (szFl _ _ _ _ _ _ _ _ _) ?_; (· refine Bk.newK _ _ _ ?_ rfl; simp [size_plus]); intro W7 hF gr7)
  have zV := be.size
  have z4 := b4.lt
  have b7 := below_grown (Below.allocS (below_plus V bs1 d1) _) gr7 (by omega)
  replace be := be.trans (b7.mono zV)
  replace b4 := b4.later b7
  have zF0 : w.heap.size < V.heap.size + bs1.length := by omega
  replace hL := hL.later (below_grown (Below.allocS (Below.refl _ _) _) gr7 (by simp [size_plus]))
  clear b7 gr7
  generalize V.heap.size + bs1.length = g7 at *
  obtain rfl : L.length = m1 := hL.1
  obtain ⟨bL, oL, rfl, hbL, -⟩ := hL.2.2.at_ (by rw [bcs_length]; omega)
  have hcL := hL.2.1
  have j1 : (8 : Int) ≤ (k1 : Int) := by omega
  have j2 : (8 : Int) ≤ (L.length : Int) := by omega
  have h8 : Rb W7 (some ⟨bL, oL, none⟩) 8 k1 (L.take 8) := hL.take (by omega)
  have yp : W7.cell? ⟨g7, 8, none⟩ = some (.int .u8 (6 : Int)) := hF.cell 8
  have zF := hF.lt
  go_wp2_with fail
  refine (readK _ _ _ _ W7 h8 (by decide)).mono ?_
  rintro e w1 ⟨r, bs2, d2, rfl, rfl, hr2, hR⟩
  have zb2 := be.size
  replace b4 := b4.later (below_plus _ bs2 d2)
  replace hF := hF.later (below_plus _ bs2 d2)
  replace hL := hL.plus_ bs2 d2
  replace be := belowP be bs2 d2
  have hrL : ∀ a, some (⟨bL, oL, none⟩ : Addr) = some a → a.block ≠ r := fun a ha => by injection ha with ha; subst ha; show bL ≠ r; omega
  have hr4 : w.heap.size < r := by omega
  have hr7 : g7 ≠ r := by omega
  generalize plus W7 bs2 d2 = W8 at *
  have l8 : (L.take 8).length = 8 := by rw [List.length_take]; omega
  have x0 : Hid (num (((L.take 8).drop 0).take 2) = sp) := Lib.hid (by rw [num_in L 8 0 2 (by decide)]; exact hsp)
  have x1 : Hid (num (((L.take 8).drop 2).take 2) = dp) := Lib.hid (by rw [num_in L 8 2 2 (by decide)]; exact hdp)
  clear yp zF h8 hr2 hbL
  go_wp2_with fail
  refine (wordG W8 r (L.take 8) 0 sp hR (by omega) (by omega) x0.out).mono ?_
  rintro e W9 ⟨rfl, hR1, hg1⟩
  replace b4 := b4.grown hg1 (by simp; omega)
  replace hF := hF.grown hg1 (by simp; omega)
  replace hL := hL.grownO hg1 hrL
  replace be := below_grown be hg1 (by omega)
  clear hg1 hR
  have zF := hF.lt
  go_upto_region 9 with (refine at_op (.store 27 (.tmp 38) (.tmp 37)) rfl ?_; refine wpList_st1R 27 (.tmp 38) (.tmp 37) rfl rfl rfl rfl hF rfl (by intro x h; cases h) rfl (by kernel_rfl) ?_; intro W10 hF2 gr2 fr2)
  replace b4 := b4.grown gr2 (by simp; omega)
  replace hR1 := hR1.farN gr2 hr7 fr2
  replace hL := fr2 _ _ _ _ hL
  replace be := below_grown be gr2 (by omega)
  clear hF gr2 fr2 zF
  go_wp2_with fail
  refine (wordG W10 r (L.take 8) 2 dp hR1 (by omega) (by omega) x1.out).mono ?_
  rintro e W11 ⟨rfl, hR2, hg1⟩
  replace b4 := b4.grown hg1 (by simp; omega)
  replace hF2 := hF2.grown hg1 (by simp; omega)
  replace hL := hL.grownO hg1 hrL
  replace be := below_grown be hg1 (by omega)
  clear hg1 hR1
  go_upto_region 10 with (refine at_op (.store 27 (.tmp 41) (.tmp 40)) rfl ?_; refine wpList_st1R 27 (.tmp 41) (.tmp 40) rfl rfl rfl rfl hF2 rfl (by intro x h; cases h) rfl (by kernel_rfl) ?_; intro W12 hF3 gr3 fr3)
  replace b4 := b4.grown gr3 (by simp; omega)
  replace hL := fr3 _ _ _ _ hL
  replace be := below_grown be gr3 (by omega)
  clear hF2 gr3 fr3 hR2
  replace hF3 : Bk W12 g7 29 ([.bool s1, .int .u64 (h1 : Int), .int .u64 (l1 : Int), .bool s2, .int .u64 (h2 : Int), .int .u64 (l2 : Int), .int .u16 (sp : Int), .int .u16 (dp : Int), .int .u8 (6 : Int)]) := hF3
  have z4' := b4.lt
  go_upto_region 11 with (first
    | (refine at_op (.load 29 (.tmp 7)) rfl ?_; refine wpList_ldA (t := 29) 29 (.tmp 7) rfl rfl ([.bool s1, .int .u64 (h1 : Int), .int .u64 (l1 : Int), .bool s2, .int .u64 (h2 : Int), .int .u64 (l2 : Int), .int .u16 (sp : Int), .int .u16 (dp : Int), .int .u8 (6 : Int)]) rfl (hF3) (whole_ _) u1 u2 (szFl s1 h1 l1 s2 h2 l2 sp dp 6) ?_)
    | (refine at_op (.store 32 (.tmp 11) (.tmp 43)) rfl ?_; refine wpList_stA (t := 32) 32 (.tmp 11) (.tmp 43) rfl rfl (qC s1 h1 l1 s2 h2 l2 sp dp 6 0 false) (qC false 0 0 false 0 0 0 0 0 0 false) rfl (qC_one _ _ _ _ _ _ _ _ _ _ _) rfl rfl ?_ (szQ _ _ _ _ _ _ _ _ _ _ _) ?_; (· refine Bk.newK _ _ _ ?_ rfl; simp [size_plus]); intro W13 hQ gr13))
  have z12 := be.size
  have b13 := below_grown (Below.allocS (Below.refl _ _) _) gr13 (Nat.le_refl _)
  replace be := be.trans (b13.mono z12)
  replace b4 := b4.later b13
  replace hF3 := hF3.later b13
  replace hL := hL.later b13
  clear b13 gr13
  generalize W12.heap.size = g11 at *
  have yp : W13.cell? ⟨g7, 8, none⟩ = some (.int .u8 (6 : Int)) := hF3.cell 8
  have zF := hF3.lt
  have h11 : w.heap.size < g11 := by omega
  go_wp2_with fail
  refine (HST.out _ _ _ _ hL).mono ?_
  rintro e w1 ⟨bs5, d5, rfl, rfl⟩
  replace b4 := b4.later (below_plus _ bs5 d5)
  replace hQ := hQ.later (below_plus _ bs5 d5)
  replace be := belowP be bs5 d5
  clear hL yp zF hF3
  generalize plus W13 bs5 d5 = W14 at *
  go_upto_region 13 with (first
    | (refine at_op (.store 30 (.tmp 52) (.tmp 50)) rfl ?_; refine wpList_st1R 30 (.tmp 52) (.tmp 50) rfl rfl rfl rfl hQ rfl (by intro x h; cases h) rfl (by kernel_rfl) ?_; intro W15 hQ2 gr5 fr5)
    | (refine at_op (.store 4 (.tmp 53) (.tmp 51)) rfl ?_; refine wpList_st1R 4 (.tmp 53) (.tmp 51) rfl rfl rfl rfl hQ2 rfl (by intro x h; cases h) rfl (by kernel_rfl) ?_; intro W16 hQ3 gr6 fr6))
  replace b4 := (b4.grown gr5 (by simp; omega)).grown gr6 (by simp; omega)
  replace be := below_grown (below_grown be gr5 (by omega)) gr6 (by omega)
  replace hQ : Bk W16 g11 32 (qC s1 h1 l1 s2 h2 l2 sp dp 6 v has) := hQ3
  clear gr5 gr6 fr5 fr6 hQ2 hQ3
  go_wp2_with (first | (refine at_op (.load 32 (.tmp 11)) rfl ?_; refine wpList_ldA (t := 32) 32 (.tmp 11) rfl rfl (qC s1 h1 l1 s2 h2 l2 sp dp 6 v has) rfl (hQ) (whole_ _) q1 q2 (szQ _ _ _ _ _ _ _ _ _ _ _) ?_) | (refine at_op (.store 32 (.tmp 4) (.tmp 54)) rfl ?_; refine wpList_stA (t := 32) 32 (.tmp 4) (.tmp 54) rfl rfl (qC s1 h1 l1 s2 h2 l2 sp dp 6 v has) (qC false 0 0 false 0 0 0 0 0 0 false) rfl (qC_one _ _ _ _ _ _ _ _ _ _ _) rfl rfl b4 (szQ _ _ _ _ _ _ _ _ _ _ _) ?_; intro W9 h9 g9))
  refine bodyPost_agg2 Try.results13 rfl rfl h9.range q1 q2 (szQ _ _ _ _ _ _ _ _ _ _ _) rfl (RetV.mk ?_)
  exact below_grown be g9 (by omega)
end Go.Proofs.Ytfmkndemkpecpaa

/- The package tcp's small functions, and the walk of the law TcpStamps. -/
namespace Go.Proofs.Ytfmkndemkpecpaa
open Go.RowKit
set_option linter.unusedVariables false
set_option linter.unusedSimpArgs false
attribute [local go_sem ↓] sliced_cut

attribute [local go_sem] cutA_zero

theorem tcpStamp_none (a b c d f wi sm ur : Int) (A : Option Addr) (n k : Nat) (A' : Option Addr) (n' k' : Nat) (l : List UInt8) (w : World) (h : Rb w A n k l) (hn : n ≤ 1000000) (hs : stampsAt l = none) :
    Calls Try.prog 28 #[.agg #[.int .u16 a, .int .u16 b, .int .u32 c, .int .u32 d, .int .u8 f, .int .u16 wi, .int .u16 sm, .int .u16 ur, .slice A n k, .slice A' n' k']] w fun e w' => e = .returned (.tuple #[.int .u32 0, .int .u32 0, .bool false]) ∧ ∃ bs m, w' = plus w bs m := by
  have H := fun W (hW : Rb W A n k l) => stamps_any A n k l W hW hn
  rw [hs] at H
  replace H := Lib.hid H
  clear hs
  go_enter Try.func28, Try.ntmps28
  go_wp2_with (go_at_call 80; refine (H.out _ (h.alloc _)).mono ?_; rintro e w1 ⟨rfl, rfl⟩; simp only [resS])
  go_ret3
  exact ⟨rfl, plus_of ((Below.refl _ _).alloc (Nat.le_refl _) _)⟩
theorem tcpStamp_some (a b c d f wi sm ur : Int) (A : Option Addr) (n k : Nat) (A' : Option Addr) (n' k' : Nat) (l : List UInt8) (p : Nat) (w : World) (h : Rb w A n k l) (hn : n ≤ 1000000) (hs : stampsAt l = some p) :
    Calls Try.prog 28 #[.agg #[.int .u16 a, .int .u16 b, .int .u32 c, .int .u32 d, .int .u8 f, .int .u16 wi, .int .u16 sm, .int .u16 ur, .slice A n k, .slice A' n' k']] w fun e w' => e = .returned (.tuple #[.int .u32 (num ((l.drop p).take 4) : Nat), .int .u32 (num ((l.drop (p + 4)).take 4) : Nat), .bool true]) ∧ ∃ bs m, w' = plus w bs m := by
  have H := fun W (hW : Rb W A n k l) => stamps_any A n k l W hW hn
  have hp := stp_found _ _ _ _ hs
  rw [hs] at H
  replace H := Lib.hid H
  have HL := Lib.hid h.1
  rw [HL.out] at hp
  have hk := h.cap
  clear hs
  go_enter Try.func28, Try.ntmps28
  go_wp2_with fail
  refine (H.out _ (h.alloc _)).mono ?_
  rintro e w1 ⟨rfl, rfl⟩
  simp only [resS]
  go_wp2_with fail
  refine (read_any _ _ _ ((l.drop p).take 8) _ (((h.alloc _).cut (by omega)).take (by omega)) (by omega)).mono ?_
  rintro e w1 ⟨r, bs1, d1, rfl, rfl, hr1, hR1⟩
  have HM := Lib.hid (show ((l.drop p).take 8).length = 8 by rw [List.length_take, List.length_drop, HL.out]; omega)
  go_wp2_with fail
  refine (longP _ _ _ r _ false hR1 hr1 (by rw [HM.out]; omega) (by rw [HM.out]; omega)).mono ?_
  rintro e w1 ⟨bs2, d2, rfl, rfl, hR2, -⟩
  go_wp2_with fail
  refine (longP _ _ _ r _ false hR2 hr1 (by rw [List.length_drop, HM.out]; omega) (by rw [List.length_drop, HM.out]; omega)).mono ?_
  rintro e w1 ⟨bs3, d3, rfl, rfl, -, -⟩
  go_wp2
  go_ret3
  refine ⟨?_, plus_of (toPlus ((Below.refl _ _).alloc (Nat.le_refl _) _) (by simp) _ _)⟩
  simp [List.drop_take, List.take_take, List.drop_drop]
end Go.Proofs.Ytfmkndemkpecpaa

/- Reasons and their names (chapter 28); the law PacketNames. -/
namespace Go.Proofs.Ytfmkndemkpecpaa
open Go.RowKit
set_option linter.unusedVariables false
set_option linter.unusedSimpArgs false
attribute [local go_sem ↓] sliced_cut

attribute [local go_sem] cutA_zero

/-- the reason of an error -/
def ofN (e : Int) : Int := if e = 0 then 0 else if e = 20 then 1 else if e = 22 then 3 else if e = 24 then 11 else if e = 25 then 12 else if e = 26 then 10 else if e = 28 then 13 else 2
theorem ofP (e : Int) (w : World) : Calls Try.prog 17 #[.int .i64 e] w fun x w' => x = .returned (.int .i64 (ofN e)) ∧ w = w' := by
  by_cases h0 : e = 0
  · subst h0
    go_enter Try.func17, Try.ntmps17
    go_wp2
    go_ret
    exact ⟨rfl, rfl⟩
  by_cases h20 : e = 20
  · subst h20
    go_enter Try.func17, Try.ntmps17
    go_wp2
    go_ret
    exact ⟨rfl, rfl⟩
  by_cases h22 : e = 22
  · subst h22
    go_enter Try.func17, Try.ntmps17
    go_wp2
    go_ret
    exact ⟨rfl, rfl⟩
  by_cases h24 : e = 24
  · subst h24
    go_enter Try.func17, Try.ntmps17
    go_wp2
    go_ret
    exact ⟨rfl, rfl⟩
  by_cases h25 : e = 25
  · subst h25
    go_enter Try.func17, Try.ntmps17
    go_wp2
    go_ret
    exact ⟨rfl, rfl⟩
  by_cases h26 : e = 26
  · subst h26
    go_enter Try.func17, Try.ntmps17
    go_wp2
    go_ret
    exact ⟨rfl, rfl⟩
  by_cases h28 : e = 28
  · subst h28
    go_enter Try.func17, Try.ntmps17
    go_wp2
    go_ret
    exact ⟨rfl, rfl⟩
  have hz : Hid (ofN e = 2) := Lib.hid (by unfold ofN; simp only [h0, h20, h22, h24, h25, h26, h28, if_false])
  have b0 : (e == 0) = false := by rw [beq_eq_false_iff_ne]; exact h0
  have b20 : (e == 20) = false := by rw [beq_eq_false_iff_ne]; exact h20
  have b22 : (e == 22) = false := by rw [beq_eq_false_iff_ne]; exact h22
  have b24 : (e == 24) = false := by rw [beq_eq_false_iff_ne]; exact h24
  have b25 : (e == 25) = false := by rw [beq_eq_false_iff_ne]; exact h25
  have b26 : (e == 26) = false := by rw [beq_eq_false_iff_ne]; exact h26
  have b28 : (e == 28) = false := by rw [beq_eq_false_iff_ne]; exact h28
  clear h0 h20 h22 h24 h25 h26 h28
  go_enter Try.func17, Try.ntmps17
  go_wp2
  go_ret
  exact ⟨by rw [hz.out]; rfl, rfl⟩
theorem ofR (e : Int) (w : World) : Calls Try.prog 18 #[.int .i64 e] w fun x w' => x = .returned (.int .i64 (ofN e)) ∧ w = w' := by
  by_cases h0 : e = 0
  · subst h0
    go_enter Try.func18, Try.ntmps18
    go_wp2
    go_ret
    exact ⟨rfl, rfl⟩
  by_cases h20 : e = 20
  · subst h20
    go_enter Try.func18, Try.ntmps18
    go_wp2
    go_ret
    exact ⟨rfl, rfl⟩
  by_cases h22 : e = 22
  · subst h22
    go_enter Try.func18, Try.ntmps18
    go_wp2
    go_ret
    exact ⟨rfl, rfl⟩
  by_cases h24 : e = 24
  · subst h24
    go_enter Try.func18, Try.ntmps18
    go_wp2
    go_ret
    exact ⟨rfl, rfl⟩
  by_cases h25 : e = 25
  · subst h25
    go_enter Try.func18, Try.ntmps18
    go_wp2
    go_ret
    exact ⟨rfl, rfl⟩
  by_cases h26 : e = 26
  · subst h26
    go_enter Try.func18, Try.ntmps18
    go_wp2
    go_ret
    exact ⟨rfl, rfl⟩
  by_cases h28 : e = 28
  · subst h28
    go_enter Try.func18, Try.ntmps18
    go_wp2
    go_ret
    exact ⟨rfl, rfl⟩
  have hz : Hid (ofN e = 2) := Lib.hid (by unfold ofN; simp only [h0, h20, h22, h24, h25, h26, h28, if_false])
  have b0 : (e == 0) = false := by rw [beq_eq_false_iff_ne]; exact h0
  have b20 : (e == 20) = false := by rw [beq_eq_false_iff_ne]; exact h20
  have b22 : (e == 22) = false := by rw [beq_eq_false_iff_ne]; exact h22
  have b24 : (e == 24) = false := by rw [beq_eq_false_iff_ne]; exact h24
  have b25 : (e == 25) = false := by rw [beq_eq_false_iff_ne]; exact h25
  have b26 : (e == 26) = false := by rw [beq_eq_false_iff_ne]; exact h26
  have b28 : (e == 28) = false := by rw [beq_eq_false_iff_ne]; exact h28
  clear h0 h20 h22 h24 h25 h26 h28
  go_enter Try.func18, Try.ntmps18
  go_wp2
  go_ret
  exact ⟨by rw [hz.out]; rfl, rfl⟩
end Go.Proofs.Ytfmkndemkpecpaa

/- packet.Read of nothing; awake; the law PacketNames (chapter 28). -/
namespace Go.Proofs.Ytfmkndemkpecpaa
open Go.RowKit
set_option linter.unusedVariables false
set_option linter.unusedSimpArgs false
attribute [local go_sem ↓] sliced_cut

attribute [local go_sem] cutA_zero

theorem rowHd : ∃ d, Try.prog.underlying 225 = some d ∧ d.isRow = true := ⟨_, Try.underlying225, rfl⟩
theorem rowIn : ∃ d, Try.prog.underlying 53 = some d ∧ d.isRow = true := ⟨_, Try.underlying53, rfl⟩
end Go.Proofs.Ytfmkndemkpecpaa

/- Rows of bytes as one operation of a region that draws its order. -/
namespace Go.Proofs.Ytfmkndemkpecpaa
open Go.RowKit
set_option linter.unusedVariables false

/-- rows of bytes -/
def MP.rdl (L : List (List UInt8)) : MP := ⟨fun v w => ∃ A m c, v = .slice A m c ∧ RdL w A m L, fun _ _ _ ⟨A, m, c, h1, cs, h2, h3, h4, h5⟩ h => ⟨A, m, c, h1, cs, h2, h3, (h4.below h.below).more h.below.size, fun i u hu => by
  obtain ⟨A', n, c, e, l, hl, hr⟩ := h5 i u hu
  exact ⟨A', n, c, e, l, hl, hr.later h.below⟩⟩⟩
inductive Rows_ (w : World) : List Value → List (List UInt8) → Prop
  | nil : Rows_ w [] []
  | cons {v : Value} {l : List UInt8} {vs : List Value} {L : List (List UInt8)} (h : ∃ A n c, v = .slice A n c ∧ Rb w A n c l) (r : Rows_ w vs L) : Rows_ w (v :: vs) (l :: L)
theorem Rows_.len {w : World} {vs : List Value} {L : List (List UInt8)} (h : Rows_ w vs L) : vs.length = L.length := by
  induction h with
  | nil => rfl
  | cons _ _ ih => simp [ih]
theorem Rows_.get {w : World} {vs : List Value} {L : List (List UInt8)} (h : Rows_ w vs L) : ∀ (i : Nat) (u : Value), vs[i]? = some u → ∃ (A' : Option Addr) (n c : Nat), u = Value.slice A' n c ∧ ∃ l, L[i]? = some l ∧ Rb w A' n c l := by
  induction h with
  | nil => intro i u hu; simp at hu
  | cons h _ ih =>
    intro i u hu
    cases i with
    | zero =>
      simp only [List.getElem?_cons_zero, Option.some.injEq] at hu
      subst hu
      obtain ⟨A, n, c, h1, h2⟩ := h
      exact ⟨A, n, c, h1, _, rfl, h2⟩
    | succ i => exact ih i u (by simpa using hu)
theorem RdL.litW {w : World} {k m : Nat} {t : TypeId} (cs : List Value) (L : List (List UInt8)) (hk : k = w.heap.size) (h : Rows_ w cs L) (hm : m = cs.length := by rfl) : RdL (w.alloc (.cells cs.toArray t)) (some ⟨k, 0, none⟩) m L := by
  subst hk hm
  refine ⟨cs, rfl, h.len.symm, .inr ⟨w.heap.size, 0, rfl, by simp, fun i u hu => ?_⟩, fun i u hu => ?_⟩
  · have := (Bk.new w t cs.toArray).cell i
    rw [Nat.zero_add, this]
    simpa using hu
  · obtain ⟨A', n, c, e, l, hl, hr⟩ := h.get i u hu
    exact ⟨A', n, c, e, l, hl, hr.alloc _⟩
end Go.Proofs.Ytfmkndemkpecpaa

/- The pseudo-header: ip6.Pseudo and counterfoilref05.Pseudo. -/
namespace Go.Proofs.Ytfmkndemkpecpaa
open Go.RowKit
set_option linter.unusedVariables false
set_option linter.unusedSimpArgs false
attribute [local go_sem ↓] sliced_cut

attribute [local go_sem] cutA_zero

/-- the bytes of a pseudo-header -/
def psdB (s6 : Bool) (sh sl : Nat) (d6 : Bool) (dh dl pr sz : Nat) : List UInt8 := adrB s6 sh sl ++ adrB d6 dh dl ++ (if s6 then dig sz 4 ++ dig pr 4 else dig pr 2 ++ dig sz 2)
theorem psdB_length (s6 : Bool) (sh sl : Nat) (d6 : Bool) (dh dl pr sz : Nat) : (psdB s6 sh sl d6 dh dl pr sz).length ≤ 40 := by
  have z1 := adrB_length s6 sh sl
  have z2 := adrB_length d6 dh dl
  cases s6 <;> simp [psdB, dig_length] <;> omega
set_option maxHeartbeats 1000000 in
set_option maxRecDepth 100000 in
theorem pseudo_any (s6 : Bool) (sh sl : Nat) (d6 : Bool) (dh dl pr sz : Nat) (w : World) (h1 : sh < 18446744073709551616) (h2 : sl < 18446744073709551616) (h3 : dh < 18446744073709551616) (h4 : dl < 18446744073709551616) (h5 : pr < 256) (h6 : sz < 65536) : Calls Try.prog 179 #[.agg #[.bool s6, .int .u64 (sh : Int), .int .u64 (sl : Int)], .agg #[.bool d6, .int .u64 (dh : Int), .int .u64 (dl : Int)], .int .u8 (pr : Int), .int .i64 (sz : Int)] w (RetF w (psdB s6 sh sl d6 dh dl pr sz)) := by
  have z1 := adrB_length s6 sh sl
  have z2 := adrB_length d6 dh dl
  go_enter Try.func179, Try.ntmps179
  go_wp2
  refine wp_rel 6 33 rfl (by kernel_rfl) (by kernel_rfl) (fun i => match i with | 0 => MP.eq (.agg #[.bool s6, .int .u64 (sh : Int), .int .u64 (sl : Int)]) | 1 => MP.of w.heap.size (adrB s6 sh sl) | 2 => MP.eq (.agg #[.bool d6, .int .u64 (dh : Int), .int .u64 (dl : Int)]) | 3 => MP.of w.heap.size (adrB d6 dh dl) | 4 => MP.rb (adrB s6 sh sl ++ adrB d6 dh dl) | 5 => MP.rb (adrB s6 sh sl ++ adrB d6 dh dl) | _ => MP.any) ?_ ?_
  · intro i hi o ho FA x hO hD K hK
    match i, hi, ho, hO, hD, hK with
    | 0, _, ho, hO, hD, hK => 
      obtain rfl := Option.some.inj ho.symm
      clear ho
      have ev4 : FA.eval (.tmp 4) = .pointer (some ⟨w.heap.size, 0, none⟩) := hO 4 (by kernel_rfl)
      have e4 : FA.tmps[4]?.getD undef = .pointer (some ⟨w.heap.size, 0, none⟩) := by simpa [Act.eval] using ev4
      replace ev4 := Lib.hid ev4
      clear hO hD
      go_simp
      exact hK.out _ _ (Ex.refl _) rfl
    | 1, _, ho, hO, hD, hK => 
      obtain rfl := Option.some.inj ho.symm
      clear ho
      have ev10 : FA.eval (.tmp 10) = .agg #[.bool s6, .int .u64 (sh : Int), .int .u64 (sl : Int)] := hD 0 10 (by kernel_rfl)
      have e10 : FA.tmps[10]?.getD undef = .agg #[.bool s6, .int .u64 (sh : Int), .int .u64 (sl : Int)] := by simpa [Act.eval] using ev10
      replace ev10 := Lib.hid ev10
      clear hO hD
      go_simp
      refine (adrBytes_any s6 sh sl _ h1 h2).mono ?_
      rintro e w1 ⟨A2, n2, bs2, d2, rfl, rfl, ho2⟩
      exact hK.out _ _ (Ex.plus_ _ _ _) ⟨_, _, rfl, ho2.mono (base' := w.heap.size) (by simp [size_plus]; omega)⟩
    | 2, _, ho, hO, hD, hK => 
      obtain rfl := Option.some.inj ho.symm
      clear ho
      have ev5 : FA.eval (.tmp 5) = .pointer (some ⟨w.heap.size + 1, 0, none⟩) := hO 5 (by kernel_rfl)
      have e5 : FA.tmps[5]?.getD undef = .pointer (some ⟨w.heap.size + 1, 0, none⟩) := by simpa [Act.eval] using ev5
      replace ev5 := Lib.hid ev5
      clear hO hD
      go_simp
      exact hK.out _ _ (Ex.refl _) rfl
    | 3, _, ho, hO, hD, hK => 
      obtain rfl := Option.some.inj ho.symm
      clear ho
      have ev12 : FA.eval (.tmp 12) = .agg #[.bool d6, .int .u64 (dh : Int), .int .u64 (dl : Int)] := hD 2 12 (by kernel_rfl)
      have e12 : FA.tmps[12]?.getD undef = .agg #[.bool d6, .int .u64 (dh : Int), .int .u64 (dl : Int)] := by simpa [Act.eval] using ev12
      replace ev12 := Lib.hid ev12
      clear hO hD
      go_simp
      refine (adrBytes_any d6 dh dl _ h3 h4).mono ?_
      rintro e w1 ⟨A2, n2, bs2, d2, rfl, rfl, ho2⟩
      exact hK.out _ _ (Ex.plus_ _ _ _) ⟨_, _, rfl, ho2.mono (base' := w.heap.size) (by simp [size_plus]; omega)⟩
    | 4, _, ho, hO, hD, hK => 
      obtain rfl := Option.some.inj ho.symm
      clear ho
      have f11 := hD 1 11 (by kernel_rfl)
      generalize eu11 : FA.eval (.tmp 11) = u11 at f11
      have e11 : FA.tmps[11]?.getD undef = u11 := by rw [← eu11]; simp [Act.eval]
      have ev11 := Lib.hid eu11
      clear eu11
      have f13 := hD 3 13 (by kernel_rfl)
      generalize eu13 : FA.eval (.tmp 13) = u13 at f13
      have e13 : FA.tmps[13]?.getD undef = u13 := by rw [← eu13]; simp [Act.eval]
      have ev13 := Lib.hid eu13
      clear eu13
      clear hO hD
      obtain ⟨A1, n1, rfl, hr1⟩ := f11
      obtain ⟨A2, n2, rfl, hr2⟩ := f13
      have hn1 : n1 ≤ 100 := by rw [← hr1.1]; omega
      have hn2 : n2 ≤ 100 := by rw [← hr2.1]; omega
      refine wanted_if rfl ?_
      refine rel_app bt (.tmp 11) (.tmp 13) rfl ev11.out hr1.rb ev13.out hr2.rb (by omega) ?_
      intro A3 n3 c3 w3 hex hr3
      exact hK.out _ _ hex ⟨_, _, _, rfl, hr3⟩
    | 5, _, ho, hO, hD, hK => 
      obtain rfl := Option.some.inj ho.symm
      clear ho
      have f14 := hD 4 14 (by kernel_rfl)
      generalize eu14 : FA.eval (.tmp 14) = u14 at f14
      have e14 : FA.tmps[14]?.getD undef = u14 := by rw [← eu14]; simp [Act.eval]
      have ev14 := Lib.hid eu14
      clear eu14
      clear hO hD
      go_simp
      exact hK.out _ _ (Ex.refl _) f14
    | (k + 6), hi, _, _, _, _ => exact absurd hi (by omega)
  intro vs x hp
  have p0 : vs 0 = .agg #[.bool s6, .int .u64 (sh : Int), .int .u64 (sl : Int)] := hp 0 (by omega)
  have p1 := hp 1 (by omega)
  have p2 : vs 2 = .agg #[.bool d6, .int .u64 (dh : Int), .int .u64 (dl : Int)] := hp 2 (by omega)
  have p3 := hp 3 (by omega)
  have p4 := hp 4 (by omega)
  have p5 := hp 5 (by omega)
  clear hp
  simp only [List.take_succ_cons, List.take_zero, List.drop_succ_cons, List.drop_zero, putAll, Nat.zero_add, Nat.reduceAdd, Act.put, List.setIfInBounds_toArray, List.set_cons_zero, List.set_cons_succ, p0, p2]
  clear p0 p2
  generalize vs 1 = y1 at *
  generalize vs 3 = y3 at *
  generalize vs 4 = y4 at *
  generalize vs 5 = y5 at *
  clear vs
  obtain ⟨A5, n5, c5, rfl, hr5⟩ := p5
  have l5 : n5 ≤ 100 := by rw [← hr5.1]; simp; omega
  cases s6
  · go_wp2_with fail
    refine (put_full _ _ _ _ pr 2 _ hr5 (by omega) (by omega) (by omega) (by omega)).mono ?_
    rintro e w1 ⟨A6, n6, bs6, m6, rfl, rfl, ho6⟩
    have l6 : n6 ≤ 200 := by rw [← ho6.1]; simp [dig_length]; omega
    go_wp2_with fail
    refine (put_full _ _ _ _ sz 2 _ ho6.rb (by omega) (by omega) (by omega) (by omega)).mono ?_
    rintro e w1 ⟨A7, n7, bs7, m7, rfl, rfl, ho7⟩
    go_wp2
    go_ret
    refine RetF.mk ?_ (belowP (belowP (belowP (Below.allocS (Below.allocS (Below.refl _ _) _) _) _ _) _ _) _ _)
    have := ho7.mono (base' := w.heap.size) (by simp [size_plus]; omega)
    simpa [psdB, List.append_assoc] using this
  · go_wp2_with fail
    refine (put_full _ _ _ _ sz 4 _ hr5 (by omega) (by omega) (by omega) (by omega)).mono ?_
    rintro e w1 ⟨A6, n6, bs6, m6, rfl, rfl, ho6⟩
    have l6 : n6 ≤ 200 := by rw [← ho6.1]; simp [dig_length]; omega
    go_wp2_with fail
    refine (put_full _ _ _ _ pr 4 _ ho6.rb (by omega) (by omega) (by omega) (by omega)).mono ?_
    rintro e w1 ⟨A7, n7, bs7, m7, rfl, rfl, ho7⟩
    go_wp2
    go_ret
    refine RetF.mk ?_ (belowP (belowP (belowP (Below.allocS (Below.allocS (Below.refl _ _) _) _) _ _) _ _) _ _)
    have := ho7.mono (base' := w.heap.size) (by simp [size_plus]; omega)
    simpa [psdB, List.append_assoc] using this
theorem dig2 (x : Nat) (h : x < 65536) : dig x 2 = [UInt8.ofNat (x / 256), UInt8.ofNat (x % 256)] := by
  simp [dig, Nat.mod_eq_of_lt (show x / 256 < 256 by omega)]
theorem tail4 (pr sz : Nat) (h5 : pr < 256) (h6 : sz < 65536) : [UInt8.ofNat 0, UInt8.ofNat pr, UInt8.ofNat (sz / 256), UInt8.ofNat (sz % 256)] = dig pr 2 ++ dig sz 2 := by
  rw [dig2 sz h6, dig2 pr (by omega), Nat.div_eq_of_lt h5, Nat.mod_eq_of_lt h5]
  rfl
theorem tail6 (pr sz : Nat) (h5 : pr < 256) : [dig sz 4, [UInt8.ofNat 0, UInt8.ofNat 0, UInt8.ofNat 0, UInt8.ofNat pr]].flatten = dig sz 4 ++ dig pr 4 := by
  have : dig pr 4 = [UInt8.ofNat 0, UInt8.ofNat 0, UInt8.ofNat 0, UInt8.ofNat pr] := by
    simp [dig, Nat.mod_eq_of_lt h5, Nat.div_eq_of_lt h5, Nat.div_eq_of_lt (show pr < 65536 by omega), Nat.div_eq_of_lt (show pr < 16777216 by omega)]
  rw [this]
  simp
set_option maxHeartbeats 4000000 in
set_option maxRecDepth 100000 in
theorem refPseudo_any (s6 : Bool) (sh sl : Nat) (d6 : Bool) (dh dl pr sz : Nat) (w : World) (h1 : sh < 18446744073709551616) (h2 : sl < 18446744073709551616) (h3 : dh < 18446744073709551616) (h4 : dl < 18446744073709551616) (h5 : pr < 256) (h6 : sz < 65536) : Calls Try.prog 120 #[.agg #[.bool s6, .int .u64 (sh : Int), .int .u64 (sl : Int)], .agg #[.bool d6, .int .u64 (dh : Int), .int .u64 (dl : Int)], .int .u8 (pr : Int), .int .i64 (sz : Int)] w (RetB w (psdB s6 sh sl d6 dh dl pr sz)) := by
  have z1 := adrB_length s6 sh sl
  have z2 := adrB_length d6 dh dl
  have hb0 : Bk ((w.alloc (.cells #[.bool s6, .int .u64 (sh : Int), .int .u64 (sl : Int)] 26)).alloc (.cells #[.bool d6, .int .u64 (dh : Int), .int .u64 (dl : Int)] 26)) w.heap.size 26 [.bool s6, .int .u64 (sh : Int), .int .u64 (sl : Int)] := (Bk.new w 26 _).alloc _
  have hb1 : Bk ((w.alloc (.cells #[.bool s6, .int .u64 (sh : Int), .int .u64 (sl : Int)] 26)).alloc (.cells #[.bool d6, .int .u64 (dh : Int), .int .u64 (dl : Int)] 26)) (w.heap.size + 1) 26 [.bool d6, .int .u64 (dh : Int), .int .u64 (dl : Int)] := Bk.newK _ _ _ (by simp) rfl
  have be0 : Below w.heap.size w ((w.alloc (.cells #[.bool s6, .int .u64 (sh : Int), .int .u64 (sl : Int)] 26)).alloc (.cells #[.bool d6, .int .u64 (dh : Int), .int .u64 (dl : Int)] 26)) := Below.allocS (Below.allocS (Below.refl _ _) _) _
  obtain ⟨qh, hqh⟩ : ∃ q, q = sz / 256 := ⟨_, rfl⟩
  obtain ⟨ql, hql⟩ : ∃ q, q = sz % 256 := ⟨_, rfl⟩
  have lqh : qh < 256 := by omega
  have lql : ql < 256 := by omega
  have f0 : (sz : Int) / 256 = (qh : Int) := by omega
  have f1 : (sz : Int) % 256 = (ql : Int) := by omega
  have HT : Hid (([adrB s6 sh sl, adrB d6 dh dl, [UInt8.ofNat 0, UInt8.ofNat pr, UInt8.ofNat qh, UInt8.ofNat ql]] : List (List UInt8)).flatten.length ≤ 549755813888) := Lib.hid (by simp; omega)
  have HT2 : Hid (([adrB s6 sh sl, adrB d6 dh dl, dig sz 4 ++ dig pr 4] : List (List UInt8)).flatten.length ≤ 549755813888) := Lib.hid (by simp [dig_length]; omega)
  have HQ := Lib.hid hqh
  have HR := Lib.hid hql
  clear hqh hql
  go_enter Try.func120, Try.ntmps120
  obtain ⟨dk, u1, u2⟩ : ∃ d, Try.prog.underlying 26 = some d ∧ d.isRow = true := ⟨_, Try.underlying26, rfl⟩
  cases s6
  · go_upto_region 4 with (fail)
    have b0 : Bk (((w.alloc (.cells #[.bool false, .int .u64 (sh : Int), .int .u64 (sl : Int)] 26)).alloc (.cells #[.bool d6, .int .u64 (dh : Int), .int .u64 (dl : Int)] 26)).alloc (.cells #[.int .u8 0, .int .u8 (pr : Int), .int .u8 (qh : Int), .int .u8 (ql : Int)] 5)) w.heap.size 26 (adC false sh sl) := hb0.alloc _
    have b1 : Bk (((w.alloc (.cells #[.bool false, .int .u64 (sh : Int), .int .u64 (sl : Int)] 26)).alloc (.cells #[.bool d6, .int .u64 (dh : Int), .int .u64 (dl : Int)] 26)).alloc (.cells #[.int .u8 0, .int .u8 (pr : Int), .int .u8 (qh : Int), .int .u8 (ql : Int)] 5)) (w.heap.size + 1) 26 (adC d6 dh dl) := hb1.alloc _
    have be : Below w.heap.size w (((w.alloc (.cells #[.bool false, .int .u64 (sh : Int), .int .u64 (sl : Int)] 26)).alloc (.cells #[.bool d6, .int .u64 (dh : Int), .int .u64 (dl : Int)] 26)).alloc (.cells #[.int .u8 0, .int .u8 (pr : Int), .int .u8 (qh : Int), .int .u8 (ql : Int)] 5)) := Below.allocS be0 _
    have h9 : Rb (((w.alloc (.cells #[.bool false, .int .u64 (sh : Int), .int .u64 (sl : Int)] 26)).alloc (.cells #[.bool d6, .int .u64 (dh : Int), .int .u64 (dl : Int)] 26)).alloc (.cells #[.int .u8 0, .int .u8 (pr : Int), .int .u8 (qh : Int), .int .u8 (ql : Int)] 5)) (some ⟨w.heap.size + 1 + 1, 0, none⟩) 4 4 [UInt8.ofNat 0, UInt8.ofNat pr, UInt8.ofNat qh, UInt8.ofNat ql] := Rb.litW _ _ (by simp) rfl (by decide) (by simp [bcs]; omega)
    refine wp_rel 8 34 rfl (by kernel_rfl) (by kernel_rfl) (fun i => match i with | 0 => MP.eq (.agg (adC false sh sl).toArray) | 1 => MP.ob w.heap.size (adrB false sh sl) | 2 => MP.eq (.agg (adC d6 dh dl).toArray) | 3 => MP.ob w.heap.size (adrB d6 dh dl) | 4 => MP.eq (.slice (some ⟨w.heap.size + 1 + 1, 0, none⟩) 4 4) | 5 => MP.rdl [(adrB false sh sl), (adrB d6 dh dl), [UInt8.ofNat 0, UInt8.ofNat pr, UInt8.ofNat qh, UInt8.ofNat ql]] | 6 => MP.ob w.heap.size ([(adrB false sh sl), (adrB d6 dh dl), [UInt8.ofNat 0, UInt8.ofNat pr, UInt8.ofNat qh, UInt8.ofNat ql]]).flatten | 7 => MP.ob w.heap.size ([(adrB false sh sl), (adrB d6 dh dl), [UInt8.ofNat 0, UInt8.ofNat pr, UInt8.ofNat qh, UInt8.ofNat ql]]).flatten | _ => MP.any) ?_ ?_
    · intro i hi o ho FA x hO hD K hK
      match i, hi, ho, hO, hD, hK with
      | 0, _, ho, hO, hD, hK => 
        obtain rfl := Option.some.inj ho.symm
        clear ho
        have ev4 : FA.eval (.tmp 4) = .pointer (some ⟨w.heap.size, 0, none⟩) := hO 4 (by kernel_rfl)
        have e4 : FA.tmps[4]?.getD undef = .pointer (some ⟨w.heap.size, 0, none⟩) := by simpa [Act.eval] using ev4
        replace ev4 := Lib.hid ev4
        clear hO hD
        refine wanted_ifG (by go_simp) ?_
        refine wp_load_mid 26 (.tmp 4) rfl w.heap.size 0 ev4.out (adC false sh sl) _ (Bk.range (b0.later (below_plus _ _ _))) u1 u2 (szAd _ _ _) ?_
        exact hK.out _ _ (Ex.refl _) rfl
      | 1, _, ho, hO, hD, hK => 
        obtain rfl := Option.some.inj ho.symm
        clear ho
        have ev27 : FA.eval (.tmp 27) = .agg (adC false sh sl).toArray := hD 0 27 (by kernel_rfl)
        have e27 : FA.tmps[27]?.getD undef = .agg (adC false sh sl).toArray := by simpa [Act.eval] using ev27
        replace ev27 := Lib.hid ev27
        clear hO hD
        go_simp
        refine (refAdrBytes false sh sl _ (by omega) (by omega)).mono ?_
        rintro e w1 ⟨A2, n2, c2, bs2, d2, rfl, rfl, ho2⟩
        exact hK.out _ _ (Ex.plus_ _ _ _) ⟨_, _, _, rfl, ho2.mono (by have := be.size; simp [size_plus]; omega)⟩
      | 2, _, ho, hO, hD, hK => 
        obtain rfl := Option.some.inj ho.symm
        clear ho
        have ev5 : FA.eval (.tmp 5) = .pointer (some ⟨w.heap.size + 1, 0, none⟩) := hO 5 (by kernel_rfl)
        have e5 : FA.tmps[5]?.getD undef = .pointer (some ⟨w.heap.size + 1, 0, none⟩) := by simpa [Act.eval] using ev5
        replace ev5 := Lib.hid ev5
        clear hO hD
        refine wanted_ifG (by go_simp) ?_
        refine wp_load_mid 26 (.tmp 5) rfl (w.heap.size + 1) 0 ev5.out (adC d6 dh dl) _ (Bk.range (b1.later (below_plus _ _ _))) u1 u2 (szAd _ _ _) ?_
        exact hK.out _ _ (Ex.refl _) rfl
      | 3, _, ho, hO, hD, hK => 
        obtain rfl := Option.some.inj ho.symm
        clear ho
        have ev29 : FA.eval (.tmp 29) = .agg (adC d6 dh dl).toArray := hD 2 29 (by kernel_rfl)
        have e29 : FA.tmps[29]?.getD undef = .agg (adC d6 dh dl).toArray := by simpa [Act.eval] using ev29
        replace ev29 := Lib.hid ev29
        clear hO hD
        go_simp
        refine (refAdrBytes d6 dh dl _ (by omega) (by omega)).mono ?_
        rintro e w1 ⟨A2, n2, c2, bs2, d2, rfl, rfl, ho2⟩
        exact hK.out _ _ (Ex.plus_ _ _ _) ⟨_, _, _, rfl, ho2.mono (by have := be.size; simp [size_plus]; omega)⟩
      | 4, _, ho, hO, hD, hK => 
        obtain rfl := Option.some.inj ho.symm
        clear ho
        have ev9 : FA.eval (.tmp 9) = .slice (some ⟨w.heap.size + 1 + 1, 0, none⟩) 4 4 := hO 9 (by kernel_rfl)
        have e9 : FA.tmps[9]?.getD undef = .slice (some ⟨w.heap.size + 1 + 1, 0, none⟩) 4 4 := by simpa [Act.eval] using ev9
        replace ev9 := Lib.hid ev9
        clear hO hD
        go_simp
        exact hK.out _ _ (Ex.refl _) rfl
      | 5, _, ho, hO, hD, hK => 
        obtain rfl := Option.some.inj ho.symm
        clear ho
        have f28 := hD 1 28 (by kernel_rfl)
        generalize eu28 : FA.eval (.tmp 28) = u28 at f28
        have e28 : FA.tmps[28]?.getD undef = u28 := by rw [← eu28]; simp [Act.eval]
        have ev28 := Lib.hid eu28
        clear eu28
        have f30 := hD 3 30 (by kernel_rfl)
        generalize eu30 : FA.eval (.tmp 30) = u30 at f30
        have e30 : FA.tmps[30]?.getD undef = u30 := by rw [← eu30]; simp [Act.eval]
        have ev30 := Lib.hid eu30
        clear eu30
        have ev31 : FA.eval (.tmp 31) = .slice (some ⟨w.heap.size + 1 + 1, 0, none⟩) 4 4 := hD 4 31 (by kernel_rfl)
        have e31 : FA.tmps[31]?.getD undef = .slice (some ⟨w.heap.size + 1 + 1, 0, none⟩) 4 4 := by simpa [Act.eval] using ev31
        replace ev31 := Lib.hid ev31
        clear hO hD
        obtain ⟨A28, n28, c28, rfl, h28⟩ := f28
        obtain ⟨A30, n30, c30, rfl, h30⟩ := f30
        go_simp
        refine hK.out _ _ (Ex.alloc _ _) ⟨_, _, _, rfl, ?_⟩
        refine RdL.litW _ _ ?_ ?_
        · simp [size_plus]
        · exact .cons ⟨_, _, _, rfl, h28.rb⟩ (.cons ⟨_, _, _, rfl, h30.rb⟩ (.cons ⟨_, _, _, rfl, h9.plus_ _ _⟩ (.nil)))
      | 6, _, ho, hO, hD, hK => 
        obtain rfl := Option.some.inj ho.symm
        clear ho
        have f32 := hD 5 32 (by kernel_rfl)
        generalize eu32 : FA.eval (.tmp 32) = u32 at f32
        have e32 : FA.tmps[32]?.getD undef = u32 := by rw [← eu32]; simp [Act.eval]
        have ev32 := Lib.hid eu32
        clear eu32
        clear hO hD
        obtain ⟨A1, m1, c1, rfl, hl1⟩ := f32
        have hm1 : m1 ≤ 100 := by obtain ⟨_, _, h2, _⟩ := hl1; simp only [List.length_cons, List.length_nil] at h2; omega
        go_simp
        refine (refJoin_any A1 m1 c1 _ _ hl1 (by omega) HT.out).mono ?_
        rintro e w1 ⟨A2, n2, c2, bs2, d2, rfl, rfl, ho2⟩
        exact hK.out _ _ (Ex.plus_ _ _ _) ⟨_, _, _, rfl, ho2.mono (by simp [size_plus]; omega)⟩
      | 7, _, ho, hO, hD, hK => 
        obtain rfl := Option.some.inj ho.symm
        clear ho
        have f33 := hD 6 33 (by kernel_rfl)
        generalize eu33 : FA.eval (.tmp 33) = u33 at f33
        have e33 : FA.tmps[33]?.getD undef = u33 := by rw [← eu33]; simp [Act.eval]
        have ev33 := Lib.hid eu33
        clear eu33
        clear hO hD
        go_simp
        exact hK.out _ _ (Ex.refl _) f33
      | (k + 8), hi, _, _, _, _ => exact absurd hi (by omega)
    intro vs x hp
    have p0 : vs 0 = .agg (adC false sh sl).toArray := hp 0 (by omega)
    have p1 := hp 1 (by omega)
    have p2 : vs 2 = .agg (adC d6 dh dl).toArray := hp 2 (by omega)
    have p3 := hp 3 (by omega)
    have p4 : vs 4 = .slice (some ⟨w.heap.size + 1 + 1, 0, none⟩) 4 4 := hp 4 (by omega)
    have p5 := hp 5 (by omega)
    have p6 := hp 6 (by omega)
    have p7 := hp 7 (by omega)
    clear hp
    simp only [List.take_succ_cons, List.take_zero, List.drop_succ_cons, List.drop_zero, putAll, Nat.zero_add, Nat.reduceAdd, Act.put, List.setIfInBounds_toArray, List.set_cons_zero, List.set_cons_succ, p0, p2, p4]
    clear p0 p2 p4
    generalize vs 1 = y1 at *
    generalize vs 3 = y3 at *
    generalize vs 5 = y5 at *
    generalize vs 6 = y6 at *
    generalize vs 7 = y7 at *
    clear vs
    obtain ⟨A10, n10, c10, rfl, h10⟩ := p7
    rw [show [adrB false sh sl, adrB d6 dh dl, [UInt8.ofNat 0, UInt8.ofNat pr, UInt8.ofNat qh, UInt8.ofNat ql]].flatten = psdB false sh sl d6 dh dl pr sz from by rw [HQ.out, HR.out, tail4 pr sz h5 h6]; simp [psdB]] at h10
    go_wp2
    go_ret
    exact RetB.mk h10 (belowP be _ _)

  · go_wp2_with fail
    refine (refBytes_any sz 4 _ (by omega) (by omega)).mono ?_
    rintro e w1 ⟨A2, n2, c2, bs2, d2, rfl, rfl, ho2⟩
    go_wp2_with fail
    refine (refJoin_any _ 2 _ [dig sz 4, [UInt8.ofNat 0, UInt8.ofNat 0, UInt8.ofNat 0, UInt8.ofNat pr]] _ (RdL.litW [.slice A2 n2 c2, .slice (some ⟨w.heap.size + 1 + 1 + 1 + bs2.length, 0, none⟩) 4 4] _ (by simp [size_plus]) (.cons ⟨_, _, _, rfl, ho2.rb.alloc _⟩ (.cons ⟨_, _, _, rfl, Rb.litW _ _ (by simp [size_plus]) rfl (by decide) (by simp [bcs]; omega)⟩ .nil))) (by omega) (by simp [dig_length])).mono ?_
    rintro e w1 ⟨A9, n9, c9, bs9, d9, rfl, rfl, ho9⟩
    go_upto_region 4 with (fail)
    refine gen_world (fun W => Bk W w.heap.size 26 (adC true sh sl) ∧ Bk W (w.heap.size + 1) 26 (adC d6 dh dl) ∧ Below w.heap.size w W ∧ Rb W A9 n9 c9 (dig sz 4 ++ dig pr 4)) ⟨((((hb0.alloc _).later (below_plus _ _ _)).alloc _).alloc _).later (below_plus _ _ _), ((((hb1.alloc _).later (below_plus _ _ _)).alloc _).alloc _).later (below_plus _ _ _), belowP (Below.allocS (Below.allocS (belowP (Below.allocS be0 _) _ _) _) _) _ _, by rw [← tail6 pr sz h5]; exact ho9.rb⟩ ?_
    rintro W ⟨b0, b1, be, h9⟩
    have hws := be.size
    refine wp_rel 8 34 rfl (by kernel_rfl) (by kernel_rfl) (fun i => match i with | 0 => MP.eq (.agg (adC true sh sl).toArray) | 1 => MP.ob w.heap.size (adrB true sh sl) | 2 => MP.eq (.agg (adC d6 dh dl).toArray) | 3 => MP.ob w.heap.size (adrB d6 dh dl) | 4 => MP.eq (.slice A9 n9 c9) | 5 => MP.rdl [(adrB true sh sl), (adrB d6 dh dl), (dig sz 4 ++ dig pr 4)] | 6 => MP.ob w.heap.size ([(adrB true sh sl), (adrB d6 dh dl), (dig sz 4 ++ dig pr 4)]).flatten | 7 => MP.ob w.heap.size ([(adrB true sh sl), (adrB d6 dh dl), (dig sz 4 ++ dig pr 4)]).flatten | _ => MP.any) ?_ ?_
    · intro i hi o ho FA x hO hD K hK
      match i, hi, ho, hO, hD, hK with
      | 0, _, ho, hO, hD, hK => 
        obtain rfl := Option.some.inj ho.symm
        clear ho
        have ev4 : FA.eval (.tmp 4) = .pointer (some ⟨w.heap.size, 0, none⟩) := hO 4 (by kernel_rfl)
        have e4 : FA.tmps[4]?.getD undef = .pointer (some ⟨w.heap.size, 0, none⟩) := by simpa [Act.eval] using ev4
        replace ev4 := Lib.hid ev4
        clear hO hD
        refine wanted_ifG (by go_simp) ?_
        refine wp_load_mid 26 (.tmp 4) rfl w.heap.size 0 ev4.out (adC true sh sl) _ (Bk.range (b0.later (below_plus _ _ _))) u1 u2 (szAd _ _ _) ?_
        exact hK.out _ _ (Ex.refl _) rfl
      | 1, _, ho, hO, hD, hK => 
        obtain rfl := Option.some.inj ho.symm
        clear ho
        have ev27 : FA.eval (.tmp 27) = .agg (adC true sh sl).toArray := hD 0 27 (by kernel_rfl)
        have e27 : FA.tmps[27]?.getD undef = .agg (adC true sh sl).toArray := by simpa [Act.eval] using ev27
        replace ev27 := Lib.hid ev27
        clear hO hD
        go_simp
        refine (refAdrBytes true sh sl _ (by omega) (by omega)).mono ?_
        rintro e w1 ⟨A2, n2, c2, bs2, d2, rfl, rfl, ho2⟩
        exact hK.out _ _ (Ex.plus_ _ _ _) ⟨_, _, _, rfl, ho2.mono (by have := be.size; simp [size_plus]; omega)⟩
      | 2, _, ho, hO, hD, hK => 
        obtain rfl := Option.some.inj ho.symm
        clear ho
        have ev5 : FA.eval (.tmp 5) = .pointer (some ⟨w.heap.size + 1, 0, none⟩) := hO 5 (by kernel_rfl)
        have e5 : FA.tmps[5]?.getD undef = .pointer (some ⟨w.heap.size + 1, 0, none⟩) := by simpa [Act.eval] using ev5
        replace ev5 := Lib.hid ev5
        clear hO hD
        refine wanted_ifG (by go_simp) ?_
        refine wp_load_mid 26 (.tmp 5) rfl (w.heap.size + 1) 0 ev5.out (adC d6 dh dl) _ (Bk.range (b1.later (below_plus _ _ _))) u1 u2 (szAd _ _ _) ?_
        exact hK.out _ _ (Ex.refl _) rfl
      | 3, _, ho, hO, hD, hK => 
        obtain rfl := Option.some.inj ho.symm
        clear ho
        have ev29 : FA.eval (.tmp 29) = .agg (adC d6 dh dl).toArray := hD 2 29 (by kernel_rfl)
        have e29 : FA.tmps[29]?.getD undef = .agg (adC d6 dh dl).toArray := by simpa [Act.eval] using ev29
        replace ev29 := Lib.hid ev29
        clear hO hD
        go_simp
        refine (refAdrBytes d6 dh dl _ (by omega) (by omega)).mono ?_
        rintro e w1 ⟨A2, n2, c2, bs2, d2, rfl, rfl, ho2⟩
        exact hK.out _ _ (Ex.plus_ _ _ _) ⟨_, _, _, rfl, ho2.mono (by have := be.size; simp [size_plus]; omega)⟩
      | 4, _, ho, hO, hD, hK => 
        obtain rfl := Option.some.inj ho.symm
        clear ho
        have ev9 : FA.eval (.tmp 9) = .slice A9 n9 c9 := hO 9 (by kernel_rfl)
        have e9 : FA.tmps[9]?.getD undef = .slice A9 n9 c9 := by simpa [Act.eval] using ev9
        replace ev9 := Lib.hid ev9
        clear hO hD
        go_simp
        exact hK.out _ _ (Ex.refl _) rfl
      | 5, _, ho, hO, hD, hK => 
        obtain rfl := Option.some.inj ho.symm
        clear ho
        have f28 := hD 1 28 (by kernel_rfl)
        generalize eu28 : FA.eval (.tmp 28) = u28 at f28
        have e28 : FA.tmps[28]?.getD undef = u28 := by rw [← eu28]; simp [Act.eval]
        have ev28 := Lib.hid eu28
        clear eu28
        have f30 := hD 3 30 (by kernel_rfl)
        generalize eu30 : FA.eval (.tmp 30) = u30 at f30
        have e30 : FA.tmps[30]?.getD undef = u30 := by rw [← eu30]; simp [Act.eval]
        have ev30 := Lib.hid eu30
        clear eu30
        have ev31 : FA.eval (.tmp 31) = .slice A9 n9 c9 := hD 4 31 (by kernel_rfl)
        have e31 : FA.tmps[31]?.getD undef = .slice A9 n9 c9 := by simpa [Act.eval] using ev31
        replace ev31 := Lib.hid ev31
        clear hO hD
        obtain ⟨A28, n28, c28, rfl, h28⟩ := f28
        obtain ⟨A30, n30, c30, rfl, h30⟩ := f30
        go_simp
        refine hK.out _ _ (Ex.alloc _ _) ⟨_, _, _, rfl, ?_⟩
        refine RdL.litW _ _ ?_ ?_
        · simp [size_plus]
        · exact .cons ⟨_, _, _, rfl, h28.rb⟩ (.cons ⟨_, _, _, rfl, h30.rb⟩ (.cons ⟨_, _, _, rfl, h9.plus_ _ _⟩ (.nil)))
      | 6, _, ho, hO, hD, hK => 
        obtain rfl := Option.some.inj ho.symm
        clear ho
        have f32 := hD 5 32 (by kernel_rfl)
        generalize eu32 : FA.eval (.tmp 32) = u32 at f32
        have e32 : FA.tmps[32]?.getD undef = u32 := by rw [← eu32]; simp [Act.eval]
        have ev32 := Lib.hid eu32
        clear eu32
        clear hO hD
        obtain ⟨A1, m1, c1, rfl, hl1⟩ := f32
        have hm1 : m1 ≤ 100 := by obtain ⟨_, _, h2, _⟩ := hl1; simp only [List.length_cons, List.length_nil] at h2; omega
        go_simp
        refine (refJoin_any A1 m1 c1 _ _ hl1 (by omega) HT2.out).mono ?_
        rintro e w1 ⟨A2, n2, c2, bs2, d2, rfl, rfl, ho2⟩
        exact hK.out _ _ (Ex.plus_ _ _ _) ⟨_, _, _, rfl, ho2.mono (by simp [size_plus]; omega)⟩
      | 7, _, ho, hO, hD, hK => 
        obtain rfl := Option.some.inj ho.symm
        clear ho
        have f33 := hD 6 33 (by kernel_rfl)
        generalize eu33 : FA.eval (.tmp 33) = u33 at f33
        have e33 : FA.tmps[33]?.getD undef = u33 := by rw [← eu33]; simp [Act.eval]
        have ev33 := Lib.hid eu33
        clear eu33
        clear hO hD
        go_simp
        exact hK.out _ _ (Ex.refl _) f33
      | (k + 8), hi, _, _, _, _ => exact absurd hi (by omega)
    intro vs x hp
    have p0 : vs 0 = .agg (adC true sh sl).toArray := hp 0 (by omega)
    have p1 := hp 1 (by omega)
    have p2 : vs 2 = .agg (adC d6 dh dl).toArray := hp 2 (by omega)
    have p3 := hp 3 (by omega)
    have p4 : vs 4 = .slice A9 n9 c9 := hp 4 (by omega)
    have p5 := hp 5 (by omega)
    have p6 := hp 6 (by omega)
    have p7 := hp 7 (by omega)
    clear hp
    simp only [List.take_succ_cons, List.take_zero, List.drop_succ_cons, List.drop_zero, putAll, Nat.zero_add, Nat.reduceAdd, Act.put, List.setIfInBounds_toArray, List.set_cons_zero, List.set_cons_succ, p0, p2, p4]
    clear p0 p2 p4
    generalize vs 1 = y1 at *
    generalize vs 3 = y3 at *
    generalize vs 5 = y5 at *
    generalize vs 6 = y6 at *
    generalize vs 7 = y7 at *
    clear vs
    obtain ⟨A10, n10, c10, rfl, h10⟩ := p7
    rw [show [adrB true sh sl, adrB d6 dh dl, (dig sz 4 ++ dig pr 4)].flatten = psdB true sh sl d6 dh dl pr sz from by simp [psdB]] at h10
    go_wp2
    go_ret
    exact RetB.mk h10 (belowP be _ _)

end Go.Proofs.Ytfmkndemkpecpaa

/- The Internet checksum: sum.fold, sum.Of, sum.Right, and the reference. -/
namespace Go.Proofs.Ytfmkndemkpecpaa
open Go.RowKit
set_option linter.unusedVariables false
set_option linter.unusedSimpArgs false
attribute [local go_sem ↓] sliced_cut

attribute [local go_sem] cutA_zero

/-- the sum of the words of bytes; low: the first byte is a low one -/
def tot : Bool → List UInt8 → Nat
  | _, [] => 0
  | low, b :: r => (if low then b.toNat else b.toNat * 256) + tot (!low) r
/-- folded -/
def fd (n : Nat) : Nat := if n = 0 then 0 else (n - 1) % 65535 + 1
theorem fd_le (n : Nat) : fd n ≤ 65535 := by
  unfold fd
  split
  · omega
  · have := Nat.mod_lt (n - 1) (show 65535 > 0 by decide)
    omega
theorem fd_small (n : Nat) (h : n ≤ 65535) : fd n = n := by
  unfold fd
  split
  · omega
  · rw [Nat.mod_eq_of_lt (by omega)]
    omega
theorem fd_step (n : Nat) (h : 65535 < n) : fd (n % 65536 + n / 65536) = fd n := by
  unfold fd
  rw [if_neg (by omega), if_neg (by omega)]
  omega
theorem fd_add (a b : Nat) : fd (fd a + b) = fd (a + b) := by
  unfold fd
  by_cases ha : a = 0
  · subst ha; simp
  · rw [if_neg ha, if_neg (by omega), if_neg (by omega)]
    omega
theorem fd_plus (a b : Nat) (ha : a ≤ 65535) (hb : b ≤ 65535) : fd (a + b) = if 65535 < a + b then a + b - 65535 else a + b := by
  split
  · unfold fd
    rw [if_neg (by omega)]
    omega
  · exact fd_small _ (by omega)
theorem tot_append (low : Bool) (a b : List UInt8) : tot low (a ++ b) = tot low a + tot (if a.length % 2 = 0 then low else !low) b := by
  induction a generalizing low with
  | nil => simp [tot]
  | cons x r ih =>
    simp only [List.cons_append, tot, ih]
    have : (if r.length % 2 = 0 then !low else !!low) = (if (x :: r).length % 2 = 0 then low else !low) := by
      simp only [List.length_cons]
      by_cases h : r.length % 2 = 0
      · rw [if_pos h, if_neg (by omega)]
      · rw [if_neg h, if_pos (by omega)]
        simp
    rw [this]
    omega
theorem tot_le (low : Bool) (l : List UInt8) : tot low l ≤ 65280 * l.length := by
  induction l generalizing low with
  | nil => simp [tot]
  | cons x r ih =>
    have := ih (!low)
    have hx := x.toNat_lt
    simp only [tot, List.length_cons]
    split <;> omega
theorem low16 (n : Nat) (hn : n < 18446744073709551616) : bits .and .u64 (n : Int) 65535 = ((n % 65536 : Nat) : Int) := by
  have := u64_and_nat n 65535 hn (by decide)
  rw [show (65535 : Nat) = 2 ^ 16 - 1 from rfl, Nat.and_two_pow_sub_one_eq_mod] at this
  exact this
set_option maxHeartbeats 1000000 in
theorem fold_sum (n : Nat) (w : World) (hn : n < 18446744073709551616) : Calls Try.prog 177 #[.int .u64 n] w fun e w' => e = .returned (.int .u16 (fd n : Nat)) ∧ w = w' := by
  go_enter Try.func177, Try.ntmps177
  go_wp2
  go_loop [0] (fun x => ∃ k : Nat, k < 18446744073709551616 ∧ x = .int .u64 k ∧ fd k = fd n) (fun x => (intOf x).toNat)
  case atStart => exact ⟨n, hn, rfl, rfl⟩
  case round =>
    obtain ⟨k, hk, rfl, hf⟩ := hrel
    have HF := Lib.hid hf
    clear hf
    by_cases hb : 65535 < k
    · have h1 := low16 k hk
      have hs := Lib.hid (fd_step k hb)
      go_wp2
      go_round
      case rel => exact ⟨k % 65536 + k / 65536, by omega, by go_num, by rw [hs.out]; exact HF.out⟩
      case measure => simp [intOf]; omega
    · have h0 : k ≤ 65535 := by omega
      go_wp2
      go_ret
      rw [← HF.out, fd_small k h0]
      exact ⟨rfl, rfl⟩
theorem plus_any (a b : Nat) (w : World) (ha : a ≤ 65535) (hb : b ≤ 65535) : Calls Try.prog 163 #[.int .u32 a, .int .u32 b] w fun e w' => e = .returned (.int .u32 (fd (a + b) : Nat)) ∧ w = w' := by
  have e := Lib.hid (fd_plus a b ha hb)
  by_cases hc : 65535 < a + b
  · rw [if_pos hc] at e
    go_enter Try.func163, Try.ntmps163
    go_wp2
    go_ret
    rw [e.out]
    exact ⟨by simp; omega, rfl⟩
  · rw [if_neg hc] at e
    go_enter Try.func163, Try.ntmps163
    go_wp2
    go_ret
    rw [e.out]
    exact ⟨by simp, rfl⟩
theorem tot_snoc (l : List UInt8) (i : Nat) (h : i < l.length) : tot false (l.take (i + 1)) = tot false (l.take i) + (if i % 2 = 0 then l[i].toNat * 256 else l[i].toNat) := by
  rw [List.take_succ_eq_append_getElem h, tot_append]
  have hl : (l.take i).length = i := by rw [List.length_take]; omega
  rw [hl]
  by_cases hi : i % 2 = 0 <;> simp [hi, tot]
theorem tot_two (l : List UInt8) (i : Nat) (hi : i % 2 = 0) (h : i + 1 < l.length) : tot false (l.take (i + 2)) = tot false (l.take i) + (l[i].toNat * 256 + l[i + 1].toNat) := by
  rw [tot_snoc l (i + 1) h, tot_snoc l i (by omega), if_pos hi, if_neg (by omega)]
  omega
theorem tot_one (l : List UInt8) (i : Nat) (hi : i % 2 = 0) (h : i + 1 = l.length) : tot false (l.take (i + 2)) = tot false (l.take i) + l[i].toNat * 256 := by
  have := tot_snoc l i (by omega)
  rw [if_pos hi] at this
  have e1 : l.take (i + 2) = l.take (i + 1) := by rw [List.take_of_length_le (by omega), List.take_of_length_le (by omega)]
  rw [e1]
  exact this
set_option maxHeartbeats 1000000 in
theorem refSumOf (A : Option Addr) (n c : Nat) (l : List UInt8) (w : World) (h : Rb w A n c l) (hm : n ≤ 1000000) : Calls Try.prog 118 #[.slice A n c] w fun e w' => e = .returned (.int .u16 (65535 - fd (tot false l) : Nat)) ∧ w = w' := by
  have HL := Lib.hid h.1
  have hrd := h.2.2
  go_enter Try.func118, Try.ntmps118
  go_wp2
  go_loop [3, 4, 5] (fun x i y => ∃ j : Nat, j % 2 = 0 ∧ j ≤ n + 1 ∧ i = .int .i64 j ∧ x = .int .u32 (fd (tot false (l.take j)) : Nat)) (fun _ i _ => n + 1 - (intOf i).toNat)
  case atStart => exact ⟨0, rfl, by omega, rfl, rfl⟩
  case round =>
    obtain ⟨j, he, hj, rfl, rfl⟩ := hrel
    have HE := Lib.hid he
    clear he
    have hs := fd_le (tot false (l.take j))
    by_cases hlt : j < n
    · obtain ⟨b, off, rfl, hb, hcell⟩ := hrd.at_ (by rw [bcs_length, HL.out]; omega)
      have hjl : j < l.length := by rw [HL.out]; omega
      have hcj : w.cell? ⟨b, off + j, none⟩ = some (.int .u8 (l[j].toNat : Int)) := hcell j _ (bcs_get _ _ hjl)
      have hx : l[j].toNat < 256 := l[j].toNat_lt
      by_cases hlt2 : j + 1 < n
      · have hjl2 : j + 1 < l.length := by rw [HL.out]; omega
        have hcj2 : w.cell? ⟨b, off + (j + 1), none⟩ = some (.int .u8 (l[j + 1].toNat : Int)) := hcell (j + 1) _ (bcs_get _ _ hjl2)
        have hx2 : l[j + 1].toNat < 256 := l[j + 1].toNat_lt
        have HS : Hid (fd (fd (tot false (l.take j)) + (l[j].toNat * 256 + l[j + 1].toNat)) = fd (tot false (l.take (j + 2)))) := Lib.hid (by rw [fd_add, tot_two l j HE.out hjl2])
        clear hcell hrd
        generalize fd (tot false (l.take j)) = s0 at *
        generalize l[j].toNat = y0 at *
        generalize l[j + 1].toNat = y1 at *
        go_wp2_with (go_at_call 163; refine (plus_any s0 (y0 * 256 + y1) _ hs (by omega)).mono ?_; rintro e w1 ⟨rfl, rfl⟩)
        go_round
        case rel => exact ⟨j + 2, by have := HE.out; omega, by omega, by go_num, by rw [HS.out]⟩
        case measure => simp [intOf]; omega
      · have HS : Hid (fd (fd (tot false (l.take j)) + l[j].toNat * 256) = fd (tot false (l.take (j + 2)))) := Lib.hid (by rw [fd_add, tot_one l j HE.out (by have := HL.out; omega)])
        clear hcell hrd
        generalize fd (tot false (l.take j)) = s0 at *
        generalize l[j].toNat = y0 at *
        go_wp2_with (go_at_call 163; refine (plus_any s0 (y0 * 256) _ hs (by omega)).mono ?_; rintro e w1 ⟨rfl, rfl⟩)
        go_round
        case rel => exact ⟨j + 2, by have := HE.out; omega, by omega, by go_num, by rw [HS.out]⟩
        case measure => simp [intOf]; omega
    · have hle := HL.out
      rw [List.take_of_length_le (by omega)] at *
      clear hle
      go_wp2
      go_ret
      have := fd_le (tot false l)
      exact ⟨by simp; omega, rfl⟩
theorem tot_one1 (p : List UInt8) (x : UInt8) : tot false (p ++ [x]) = tot false p + (if p.length % 2 = 0 then x.toNat * 256 else x.toNat) := by
  rw [tot_append]
  by_cases h : p.length % 2 = 0 <;> simp [h, tot]
theorem take_snoc_ (l : List UInt8) (i : Nat) (h : i < l.length) (p : List UInt8) : p ++ l.take (i + 1) = (p ++ l.take i) ++ [l[i]] := by
  rw [List.take_succ_eq_append_getElem h, List.append_assoc]
theorem xor_ones16 (b : Nat) (hb : b < 2 ^ 16) : (2 ^ 16 - 1) ^^^ b = 2 ^ 16 - 1 - b := by
  apply Nat.eq_of_testBit_eq
  intro i
  rw [Nat.testBit_xor, Nat.testBit_two_pow_sub_one, show 2 ^ 16 - 1 - b = 2 ^ 16 - (b + 1) by omega, Nat.testBit_two_pow_sub_succ hb]
  by_cases h : i < 16
  · simp [h]
  · have : b.testBit i = false := Nat.testBit_lt_two_pow (Nat.lt_of_lt_of_le hb (Nat.pow_le_pow_right (by decide) (by omega)))
    simp [h, this]
theorem not16 (x : Nat) (h : x ≤ 65535) : bits .xor .u16 IntKind.u16.max (x : Int) = ((65535 - x : Nat) : Int) := by
  have := u16_xor_nat 65535 x (by decide) (by omega)
  have e := xor_ones16 x (by omega)
  simp only [Nat.reducePow, Nat.reduceSub] at e
  rw [e] at this
  exact this
/-- the byte that comes next is a low one -/
def LowB (l : List UInt8) (v : Value) : Prop := (l.length % 2 = 0 ∧ v = .bool false) ∨ (l.length % 2 = 1 ∧ v = .bool true)
set_option maxHeartbeats 2000000 in
theorem sumOf (A : Option Addr) (m c : Nat) (L : List (List UInt8)) (w : World) (h : RdL w A m L) (hm : m ≤ 1000000) (ht : L.flatten.length ≤ 1000000) : Calls Try.prog 153 #[.slice A m c] w fun e w' => e = .returned (.int .u16 (65535 - fd (tot false L.flatten) : Nat)) ∧ w = w' := by
  obtain ⟨cs, h1, h2, hrd, hel⟩ := h
  have H1 := Lib.hid h1
  have H2 := Lib.hid h2
  have HE := Lib.hid hel
  clear h1 h2 hel
  go_enter Try.func153, Try.ntmps153
  go_wp2
  go_loop [3, 4, 11] (fun x y i => ∃ j : Nat, j ≤ m ∧ i = .int .i64 j ∧ x = .int .u64 (tot false (L.take j).flatten : Nat) ∧ LowB (L.take j).flatten y) (fun _ _ i => m - (intOf i).toNat)
  case atStart => exact ⟨0, Nat.zero_le _, rfl, rfl, .inl ⟨rfl, rfl⟩⟩
  case round =>
    obtain ⟨j, hj, rfl, rfl, hlow⟩ := hrel
    by_cases hlt : j < m
    · obtain ⟨b, off, rfl, hbl, hcell⟩ := hrd.at_ (by rw [H1.out]; omega)
      have hjc : j < cs.length := by rw [H1.out]; exact hlt
      obtain ⟨A2, n2, c2, he, l, hl, hr2⟩ := HE.out j _ (List.getElem?_eq_getElem hjc)
      have hcj : w.cell? ⟨b, off + j, none⟩ = some (.slice A2 n2 c2) := by
        rw [← he]
        exact hcell j _ (List.getElem?_eq_getElem hjc)
      have HS := Lib.hid (take_flatten_succ L j l hl)
      have hsz : (L.take j).flatten.length + l.length ≤ 1000000 := by
        have e2 := total_take L (j + 1)
        rw [HS.out, List.length_append] at e2
        omega
      have HL := Lib.hid hr2.1
      have hrd2 := hr2.2.2
      have hn2 : n2 ≤ 1000000 := by have := HL.out; omega
      clear hcell hrd hl he hr2
      generalize (L.take j).flatten = p at *
      have HLO := Lib.hid hlow
      have htp : tot false p ≤ 65280 * 1000000 := Nat.le_trans (tot_le false p) (Nat.mul_le_mul_left _ (by omega))
      clear hlow
      go_wp2
      go_loop [3, 4, 17] (fun x y i => ∃ k : Nat, k ≤ n2 ∧ i = .int .i64 k ∧ x = .int .u64 (tot false (p ++ l.take k) : Nat) ∧ LowB (p ++ l.take k) y) (fun _ _ i => n2 - (intOf i).toNat)
      case atStart => exact ⟨0, Nat.zero_le _, rfl, by simp, by simpa using HLO.out⟩
      case round =>
        obtain ⟨k, hk, rfl, rfl, hlow⟩ := hrel
        by_cases hlt2 : k < n2
        · obtain ⟨b2, off2, rfl, hbl2, hcell2⟩ := hrd2.at_ (by rw [bcs_length, HL.out]; omega)
          have hkl : k < l.length := by rw [HL.out]; omega
          have hck : w.cell? ⟨b2, off2 + k, none⟩ = some (.int .u8 (l[k].toNat : Int)) := hcell2 k _ (bcs_get _ _ hkl)
          have hx2 : l[k].toNat < 256 := l[k].toNat_lt
          have htq : tot false (p ++ l.take k) ≤ 65280 * 1000000 := Nat.le_trans (tot_le false _) (Nat.mul_le_mul_left _ (by rw [List.length_append, List.length_take]; omega))
          have HT := Lib.hid (tot_one1 (p ++ l.take k) l[k])
          have HN := Lib.hid (take_snoc_ l k hkl p)
          have HP := Lib.hid hlow
          clear hcell2 hrd2 hlow
          generalize p ++ l.take k = q at *
          rcases HP.out with ⟨h0, rfl⟩ | ⟨h0, rfl⟩
          · have HZ := Lib.hid h0
            clear h0 HP
            go_wp2
            go_round
            case rel =>
              refine ⟨k + 1, by omega, by go_num, ?_, ?_⟩
              · rw [HN.out, HT.out, if_pos HZ.out]; simp
              · rw [HN.out]; right; exact ⟨by rw [List.length_append]; have := HZ.out; simp; omega, rfl⟩
            case measure => simp [intOf]; omega
          · have HZ := Lib.hid h0
            clear h0 HP
            go_wp2
            go_round
            case rel =>
              refine ⟨k + 1, by omega, by go_num, ?_, ?_⟩
              · rw [HN.out, HT.out, if_neg (by have := HZ.out; omega)]; simp
              · rw [HN.out]; left; exact ⟨by rw [List.length_append]; have := HZ.out; simp; omega, rfl⟩
            case measure => simp [intOf]; omega
        · have hkk : l.take k = l := List.take_of_length_le (by rw [HL.out]; omega)
          rw [hkk] at hlow
          have HK := Lib.hid hkk
          have HLW := Lib.hid hlow
          clear hkk hlow
          go_wp2
          go_round
          case rel => exact ⟨j + 1, by omega, by go_num, by rw [HS.out, HK.out], by rw [HS.out]; exact HLW.out⟩
          case measure => simp [intOf]; omega
    · have hjj : L.take j = L := List.take_of_length_le (by rw [H2.out]; omega)
      rw [hjj]
      have htq : tot false L.flatten ≤ 65280 * 1000000 := Nat.le_trans (tot_le false _) (Nat.mul_le_mul_left _ (by omega))
      clear hjj hlow
      generalize hq : tot false L.flatten = t at *
      have HQ := Lib.hid hq
      clear hq
      have hf := fd_le t
      have hx := not16 (fd t) hf
      go_wp2_with (go_at_call 177; refine (fold_sum t _ (by omega)).mono ?_; rintro e w1 ⟨rfl, rfl⟩)
      go_ret
      refine ⟨?_, rfl⟩
      rw [HQ.out]
      rfl
theorem sumRight (A : Option Addr) (m c : Nat) (L : List (List UInt8)) (w : World) (h : RdL w A m L) (hm : m ≤ 1000000) (ht : L.flatten.length ≤ 1000000) : Calls Try.prog 169 #[.slice A m c] w fun e w' => e = .returned (.bool (65535 - fd (tot false L.flatten) == 0)) ∧ w = w' := by
  have HO := Lib.hid (sumOf A m c L w h hm ht)
  generalize 65535 - fd (tot false L.flatten) = z at *
  go_enter Try.func169, Try.ntmps169
  go_wp2_with (go_at_call 153; refine HO.out.mono ?_; rintro e w1 ⟨rfl, rfl⟩)
  go_ret
  refine ⟨?_, rfl⟩
  show Ending.returned (.bool ((z : Int) == 0)) = _
  congr 2
  rw [Bool.eq_iff_iff]
  simp only [beq_iff_eq]
  omega
end Go.Proofs.Ytfmkndemkpecpaa

/- Contracts of the package icmp and its reference. -/
namespace Go.Proofs.Ytfmkndemkpecpaa
open Go.RowKit
set_option linter.unusedVariables false
attribute [local go_sem ↓] sliced_cut

attribute [local go_sem] cutA_zero

/-- a new message -/
def RetM (w : World) (ty code sum word : Int) (l : List UInt8) (e : Ending) (w' : World) : Prop :=
  ∃ A n c bs d, e = .returned (.agg #[.int .u8 ty, .int .u8 code, .int .u16 sum, .int .u32 word, .slice A n c]) ∧ w' = plus w bs d ∧ Ob (plus w bs d) w.heap.size A n c l
theorem RetM.mk {w w' : World} {ty code sum word : Int} {l : List UInt8} {A : Option Addr} {n c : Nat} (ho : Ob w' w.heap.size A n c l) (hb : Below w.heap.size w w') :
    RetM w ty code sum word l (.returned (.agg #[.int .u8 ty, .int .u8 code, .int .u16 sum, .int .u32 word, .slice A n c])) w' := by
  obtain ⟨bs, d, rfl⟩ := plus_of hb
  exact ⟨A, n, c, bs, d, rfl, rfl, ho⟩

set_option maxHeartbeats 1000000 in
theorem icmpBytes_any (a b c d : Int) (A : Option Addr) (n k : Nat) (l : List UInt8) (w : World) (ha : 0 ≤ a ∧ a ≤ 255) (hb : 0 ≤ b ∧ b ≤ 255) (hc : 0 ≤ c ∧ c ≤ 65535) (hd : 0 ≤ d ∧ d ≤ 4294967295) (h : Rb w A n k l) (hn : n ≤ 1000000) :
    Calls Try.prog 187 #[.agg #[.int .u8 a, .int .u8 b, .int .u16 c, .int .u32 d, .slice A n k]] w (RetB w (dig a.toNat 1 ++ dig b.toNat 1 ++ dig c.toNat 2 ++ dig d.toNat 4 ++ l)) := by
  obtain ⟨a0, a1⟩ := ha
  obtain ⟨b0, b1⟩ := hb
  obtain ⟨c0, c1⟩ := hc
  obtain ⟨d0, d1⟩ := hd
  go_enter Try.func187, Try.ntmps187
  go_wp2_with fail
  refine (put_int _ _ _ [] a 1 _ Rb.nil_ (by omega) a0 (by omega) (by omega) (by omega)).mono ?_
  rintro e w1 ⟨A1, n1, k1, bs1, m1, rfl, rfl, ho1⟩
  have l1 : n1 ≤ 100 := by have := ho1.len; simp [dig_length] at this; omega
  go_wp2_with fail
  refine (put_int _ _ _ _ b 1 _ ho1.rb (by omega) b0 (by omega) (by omega) (by omega)).mono ?_
  rintro e w2 ⟨A2, n2, k2, bs2, m2, rfl, rfl, ho2⟩
  have l2 : n2 ≤ 100 := by have := ho2.len; simp [dig_length] at this; omega
  go_wp2_with fail
  refine (put_int _ _ _ _ c 2 _ ho2.rb (by omega) c0 (by omega) (by omega) (by omega)).mono ?_
  rintro e w3 ⟨A3, n3, k3, bs3, m3, rfl, rfl, ho3⟩
  have l3 : n3 ≤ 100 := by have := ho3.len; simp [dig_length] at this; omega
  go_wp2_with fail
  refine (put_int _ _ _ _ d 4 _ ho3.rb (by omega) d0 (by omega) (by omega) (by omega)).mono ?_
  rintro e w4 ⟨A4, n4, k4, bs4, m4, rfl, rfl, ho4⟩
  have l4 : n4 ≤ 100 := by have := ho4.len; simp [dig_length] at this; omega
  go_wp2_with (at_builtin; refine wpList_appP _ bt rfl (.tmp 23) (.tmp 25) rfl (by exact below_plus _ bs4 m4) rfl ho4 rfl (by exact ((((h.alloc _).plus_ _ _).plus_ _ _).plus_ _ _).plus_ _ _) (by omega) ?_; intro A5 n5 k5 bs5 m5 ho5 _)
  go_ret
  refine RetB.mk ?_ (toPlus (toPlus (toPlus (toPlus ((Below.refl _ _).alloc (Nat.le_refl _) _) (by simp) _ _) (by simp [size_plus]; omega) _ _) (by simp [size_plus]; omega) _ _) (by simp [size_plus]; omega) _ _)
  simpa using ho5.mono (base' := w.heap.size) (by simp [size_plus]; omega)
end Go.Proofs.Ytfmkndemkpecpaa

/- Messages: Bytes, covered, Summed, Fine, Error, Echo; the reference's Bytes, Check, Summed, Error. -/
namespace Go.Proofs.Ytfmkndemkpecpaa
open Go.RowKit
set_option linter.unusedVariables false
set_option linter.unusedSimpArgs false
attribute [local go_sem ↓] sliced_cut

attribute [local go_sem] cutA_zero

def msgC (a b c d : Nat) (A : Option Addr) (n k : Nat) : List Value := [.int .u8 (a : Int), .int .u8 (b : Int), .int .u16 (c : Int), .int .u32 (d : Int), .slice A n k]
theorem msgC_one (a b c d : Nat) (A : Option Addr) (n k : Nat) : ∀ u ∈ msgC a b c d A n k, u.oneCell' = true := by
  intro u hu
  simp only [msgC, List.mem_cons, List.not_mem_nil, or_false] at hu
  rcases hu with rfl | rfl | rfl | rfl | rfl <;> rfl
theorem szMs (a b c d : Nat) (A : Option Addr) (n k : Nat) : (Try.prog.info? 51).map (·.size) = some (msgC a b c d A n k).length := by kernel_rfl
theorem szMr (a b c d : Nat) (A : Option Addr) (n k : Nat) : (Try.prog.info? 58).map (·.size) = some (msgC a b c d A n k).length := by kernel_rfl
theorem rowMs : ∃ d, Try.prog.underlying 51 = some d ∧ d.isRow = true := ⟨_, Try.underlying51, rfl⟩
theorem rowMr : ∃ d, Try.prog.underlying 58 = some d ∧ d.isRow = true := ⟨_, Try.underlying58, rfl⟩
theorem rowAd : ∃ d, Try.prog.underlying 26 = some d ∧ d.isRow = true := ⟨_, Try.underlying26, rfl⟩
/-- the bytes of a message -/
def icmpB (a b c d : Nat) (l : List UInt8) : List UInt8 := dig a 1 ++ dig b 1 ++ dig c 2 ++ dig d 4 ++ l
theorem icmpB_length (a b c d : Nat) (l : List UInt8) : (icmpB a b c d l).length = 8 + l.length := by simp [icmpB, dig_length]; omega
theorem icmpBytes (a b c d : Nat) (A : Option Addr) (n k : Nat) (l : List UInt8) (w : World) (ha : a < 256) (hb : b < 256) (hc : c < 65536) (hd : d < 4294967296) (h : Rb w A n k l) (hn : n ≤ 1000000) : Calls Try.prog 187 #[.agg (msgC a b c d A n k).toArray] w (RetB w (icmpB a b c d l)) := by
  have := icmpBytes_any (a : Int) b c d A n k l w (by omega) (by omega) (by omega) (by omega) h hn
  simpa [icmpB, msgC] using this
set_option maxHeartbeats 4000000 in
set_option maxRecDepth 100000 in
theorem refIcmpBytes (a b c d : Nat) (A : Option Addr) (n k : Nat) (l : List UInt8) (w : World) (ha : a < 256) (hb : b < 256) (hc : c < 65536) (hd : d < 4294967296) (h : Rb w A n k l) (hn : n ≤ 1000000) : Calls Try.prog 122 #[.agg (msgC a b c d A n k).toArray] w (RetB w (icmpB a b c d l)) := by
  have HT : Hid (([[UInt8.ofNat (a), UInt8.ofNat (b)], (dig (c) 2), (dig (d) 4), l]).flatten.length ≤ 549755813888) := Lib.hid (by simp [dig_length, h.1]; omega)
  have HE : Hid (([[UInt8.ofNat (a), UInt8.ofNat (b)], (dig (c) 2), (dig (d) 4), l]).flatten = icmpB a b c d l) := Lib.hid (by simp [icmpB, dig1 a ha, dig1 b hb])
  unfold msgC
  have g0 : IntKind.u64.wrap (c : Int) = (c : Int) := IntWalk.u64_in _ (by omega)
  have g1 : IntKind.u64.wrap (d : Int) = (d : Int) := IntWalk.u64_in _ (by omega)
  go_enter Try.func122, Try.ntmps122
  go_wp2
  refine wp_rel 18 20 rfl (by kernel_rfl) (by kernel_rfl) (fun i => match i with | 0 => MP.eq (.pointer (some ⟨w.heap.size, 0, none⟩)) | 1 => MP.eq (.int .u8 (a : Int)) | 2 => MP.eq (.pointer (some ⟨w.heap.size, 1, none⟩)) | 3 => MP.eq (.int .u8 (b : Int)) | 4 => MP.rb [UInt8.ofNat (a), UInt8.ofNat (b)] | 5 => MP.eq (.pointer (some ⟨w.heap.size, 2, none⟩)) | 6 => MP.eq (.int .u16 (c : Int)) | 7 => MP.eq (.int .u64 (c : Int)) | 8 => MP.rb (dig (c) 2) | 9 => MP.eq (.pointer (some ⟨w.heap.size, 3, none⟩)) | 10 => MP.eq (.int .u32 (d : Int)) | 11 => MP.eq (.int .u64 (d : Int)) | 12 => MP.rb (dig (d) 4) | 13 => MP.eq (.pointer (some ⟨w.heap.size, 4, none⟩)) | 14 => MP.eq (.slice A n k) | 15 => MP.rdl [[UInt8.ofNat (a), UInt8.ofNat (b)], (dig (c) 2), (dig (d) 4), l] | 16 => MP.ob w.heap.size ([[UInt8.ofNat (a), UInt8.ofNat (b)], (dig (c) 2), (dig (d) 4), l]).flatten | 17 => MP.ob w.heap.size ([[UInt8.ofNat (a), UInt8.ofNat (b)], (dig (c) 2), (dig (d) 4), l]).flatten | _ => MP.any) ?_ ?_
  · intro i hi o ho FA x hO hD K hK
    match i, hi, ho, hO, hD, hK with
    | 0, _, ho, hO, hD, hK => 
      obtain rfl := Option.some.inj ho.symm
      clear ho
      have ev1 : FA.eval (.tmp 1) = .pointer (some ⟨w.heap.size, 0, none⟩) := hO 1 (by kernel_rfl)
      have e1 : FA.tmps[1]?.getD undef = .pointer (some ⟨w.heap.size, 0, none⟩) := by simpa [Act.eval] using ev1
      replace ev1 := Lib.hid ev1
      clear hO hD
      go_simp
      exact hK.out _ _ (Ex.refl _) rfl
    | 1, _, ho, hO, hD, hK => 
      obtain rfl := Option.some.inj ho.symm
      clear ho
      have ev3 : FA.eval (.tmp 3) = .pointer (some ⟨w.heap.size, 0, none⟩) := hD 0 3 (by kernel_rfl)
      have e3 : FA.tmps[3]?.getD undef = .pointer (some ⟨w.heap.size, 0, none⟩) := by simpa [Act.eval] using ev3
      replace ev3 := Lib.hid ev3
      clear hO hD
      go_simp
      exact hK.out _ _ (Ex.refl _) rfl
    | 2, _, ho, hO, hD, hK => 
      obtain rfl := Option.some.inj ho.symm
      clear ho
      have ev1 : FA.eval (.tmp 1) = .pointer (some ⟨w.heap.size, 0, none⟩) := hO 1 (by kernel_rfl)
      have e1 : FA.tmps[1]?.getD undef = .pointer (some ⟨w.heap.size, 0, none⟩) := by simpa [Act.eval] using ev1
      replace ev1 := Lib.hid ev1
      clear hO hD
      go_simp
      exact hK.out _ _ (Ex.refl _) rfl
    | 3, _, ho, hO, hD, hK => 
      obtain rfl := Option.some.inj ho.symm
      clear ho
      have ev5 : FA.eval (.tmp 5) = .pointer (some ⟨w.heap.size, 1, none⟩) := hD 2 5 (by kernel_rfl)
      have e5 : FA.tmps[5]?.getD undef = .pointer (some ⟨w.heap.size, 1, none⟩) := by simpa [Act.eval] using ev5
      replace ev5 := Lib.hid ev5
      clear hO hD
      go_simp
      exact hK.out _ _ (Ex.refl _) rfl
    | 4, _, ho, hO, hD, hK => 
      obtain rfl := Option.some.inj ho.symm
      clear ho
      have ev4 : FA.eval (.tmp 4) = .int .u8 (a : Int) := hD 1 4 (by kernel_rfl)
      have e4 : FA.tmps[4]?.getD undef = .int .u8 (a : Int) := by simpa [Act.eval] using ev4
      replace ev4 := Lib.hid ev4
      have ev6 : FA.eval (.tmp 6) = .int .u8 (b : Int) := hD 3 6 (by kernel_rfl)
      have e6 : FA.tmps[6]?.getD undef = .int .u8 (b : Int) := by simpa [Act.eval] using ev6
      replace ev6 := Lib.hid ev6
      clear hO hD
      go_simp
      refine hK.out _ _ (Ex.alloc _ _) ⟨_, _, _, rfl, ?_⟩
      refine Rb.litW _ [UInt8.ofNat (a), UInt8.ofNat (b)] ?_ rfl (by decide) ?_
      · simp [size_plus]
      · simp [bcs]; try omega
    | 5, _, ho, hO, hD, hK => 
      obtain rfl := Option.some.inj ho.symm
      clear ho
      have ev1 : FA.eval (.tmp 1) = .pointer (some ⟨w.heap.size, 0, none⟩) := hO 1 (by kernel_rfl)
      have e1 : FA.tmps[1]?.getD undef = .pointer (some ⟨w.heap.size, 0, none⟩) := by simpa [Act.eval] using ev1
      replace ev1 := Lib.hid ev1
      clear hO hD
      go_simp
      exact hK.out _ _ (Ex.refl _) rfl
    | 6, _, ho, hO, hD, hK => 
      obtain rfl := Option.some.inj ho.symm
      clear ho
      have ev8 : FA.eval (.tmp 8) = .pointer (some ⟨w.heap.size, 2, none⟩) := hD 5 8 (by kernel_rfl)
      have e8 : FA.tmps[8]?.getD undef = .pointer (some ⟨w.heap.size, 2, none⟩) := by simpa [Act.eval] using ev8
      replace ev8 := Lib.hid ev8
      clear hO hD
      go_simp
      exact hK.out _ _ (Ex.refl _) rfl
    | 7, _, ho, hO, hD, hK => 
      obtain rfl := Option.some.inj ho.symm
      clear ho
      have ev9 : FA.eval (.tmp 9) = .int .u16 (c : Int) := hD 6 9 (by kernel_rfl)
      have e9 : FA.tmps[9]?.getD undef = .int .u16 (c : Int) := by simpa [Act.eval] using ev9
      replace ev9 := Lib.hid ev9
      clear hO hD
      go_simp
      exact hK.out _ _ (Ex.refl _) rfl
    | 8, _, ho, hO, hD, hK => 
      obtain rfl := Option.some.inj ho.symm
      clear ho
      have ev10 : FA.eval (.tmp 10) = .int .u64 (c : Int) := hD 7 10 (by kernel_rfl)
      have e10 : FA.tmps[10]?.getD undef = .int .u64 (c : Int) := by simpa [Act.eval] using ev10
      replace ev10 := Lib.hid ev10
      clear hO hD
      go_simp
      refine (refBytes_any (c) 2 _ (by omega) (by omega)).mono ?_
      rintro e w1 ⟨A2, n2, c2, bs2, d2, rfl, rfl, ho2⟩
      exact hK.out _ _ (Ex.plus_ _ _ _) ⟨_, _, _, rfl, ho2.rb⟩
    | 9, _, ho, hO, hD, hK => 
      obtain rfl := Option.some.inj ho.symm
      clear ho
      have ev1 : FA.eval (.tmp 1) = .pointer (some ⟨w.heap.size, 0, none⟩) := hO 1 (by kernel_rfl)
      have e1 : FA.tmps[1]?.getD undef = .pointer (some ⟨w.heap.size, 0, none⟩) := by simpa [Act.eval] using ev1
      replace ev1 := Lib.hid ev1
      clear hO hD
      go_simp
      exact hK.out _ _ (Ex.refl _) rfl
    | 10, _, ho, hO, hD, hK => 
      obtain rfl := Option.some.inj ho.symm
      clear ho
      have ev12 : FA.eval (.tmp 12) = .pointer (some ⟨w.heap.size, 3, none⟩) := hD 9 12 (by kernel_rfl)
      have e12 : FA.tmps[12]?.getD undef = .pointer (some ⟨w.heap.size, 3, none⟩) := by simpa [Act.eval] using ev12
      replace ev12 := Lib.hid ev12
      clear hO hD
      go_simp
      exact hK.out _ _ (Ex.refl _) rfl
    | 11, _, ho, hO, hD, hK => 
      obtain rfl := Option.some.inj ho.symm
      clear ho
      have ev13 : FA.eval (.tmp 13) = .int .u32 (d : Int) := hD 10 13 (by kernel_rfl)
      have e13 : FA.tmps[13]?.getD undef = .int .u32 (d : Int) := by simpa [Act.eval] using ev13
      replace ev13 := Lib.hid ev13
      clear hO hD
      go_simp
      exact hK.out _ _ (Ex.refl _) rfl
    | 12, _, ho, hO, hD, hK => 
      obtain rfl := Option.some.inj ho.symm
      clear ho
      have ev14 : FA.eval (.tmp 14) = .int .u64 (d : Int) := hD 11 14 (by kernel_rfl)
      have e14 : FA.tmps[14]?.getD undef = .int .u64 (d : Int) := by simpa [Act.eval] using ev14
      replace ev14 := Lib.hid ev14
      clear hO hD
      go_simp
      refine (refBytes_any (d) 4 _ (by omega) (by omega)).mono ?_
      rintro e w1 ⟨A2, n2, c2, bs2, d2, rfl, rfl, ho2⟩
      exact hK.out _ _ (Ex.plus_ _ _ _) ⟨_, _, _, rfl, ho2.rb⟩
    | 13, _, ho, hO, hD, hK => 
      obtain rfl := Option.some.inj ho.symm
      clear ho
      have ev1 : FA.eval (.tmp 1) = .pointer (some ⟨w.heap.size, 0, none⟩) := hO 1 (by kernel_rfl)
      have e1 : FA.tmps[1]?.getD undef = .pointer (some ⟨w.heap.size, 0, none⟩) := by simpa [Act.eval] using ev1
      replace ev1 := Lib.hid ev1
      clear hO hD
      go_simp
      exact hK.out _ _ (Ex.refl _) rfl
    | 14, _, ho, hO, hD, hK => 
      obtain rfl := Option.some.inj ho.symm
      clear ho
      have ev16 : FA.eval (.tmp 16) = .pointer (some ⟨w.heap.size, 4, none⟩) := hD 13 16 (by kernel_rfl)
      have e16 : FA.tmps[16]?.getD undef = .pointer (some ⟨w.heap.size, 4, none⟩) := by simpa [Act.eval] using ev16
      replace ev16 := Lib.hid ev16
      clear hO hD
      go_simp
      exact hK.out _ _ (Ex.refl _) rfl
    | 15, _, ho, hO, hD, hK => 
      obtain rfl := Option.some.inj ho.symm
      clear ho
      have f7 := hD 4 7 (by kernel_rfl)
      generalize eu7 : FA.eval (.tmp 7) = u7 at f7
      have e7 : FA.tmps[7]?.getD undef = u7 := by rw [← eu7]; simp [Act.eval]
      have ev7 := Lib.hid eu7
      clear eu7
      have f11 := hD 8 11 (by kernel_rfl)
      generalize eu11 : FA.eval (.tmp 11) = u11 at f11
      have e11 : FA.tmps[11]?.getD undef = u11 := by rw [← eu11]; simp [Act.eval]
      have ev11 := Lib.hid eu11
      clear eu11
      have f15 := hD 12 15 (by kernel_rfl)
      generalize eu15 : FA.eval (.tmp 15) = u15 at f15
      have e15 : FA.tmps[15]?.getD undef = u15 := by rw [← eu15]; simp [Act.eval]
      have ev15 := Lib.hid eu15
      clear eu15
      have ev17 : FA.eval (.tmp 17) = .slice A n k := hD 14 17 (by kernel_rfl)
      have e17 : FA.tmps[17]?.getD undef = .slice A n k := by simpa [Act.eval] using ev17
      replace ev17 := Lib.hid ev17
      clear hO hD
      obtain ⟨A7, n7, c7, rfl, h7⟩ := f7
      obtain ⟨A11, n11, c11, rfl, h11⟩ := f11
      obtain ⟨A15, n15, c15, rfl, h15⟩ := f15
      go_simp
      refine hK.out _ _ (Ex.alloc _ _) ⟨_, _, _, rfl, ?_⟩
      refine RdL.litW _ _ ?_ ?_
      · simp [size_plus]
      · exact .cons ⟨_, _, _, rfl, h7⟩ (.cons ⟨_, _, _, rfl, h11⟩ (.cons ⟨_, _, _, rfl, h15⟩ (.cons ⟨_, _, _, rfl, (h.alloc _).plus_ _ _⟩ (.nil))))
    | 16, _, ho, hO, hD, hK => 
      obtain rfl := Option.some.inj ho.symm
      clear ho
      have f18 := hD 15 18 (by kernel_rfl)
      generalize eu18 : FA.eval (.tmp 18) = u18 at f18
      have e18 : FA.tmps[18]?.getD undef = u18 := by rw [← eu18]; simp [Act.eval]
      have ev18 := Lib.hid eu18
      clear eu18
      clear hO hD
      obtain ⟨A1, m1, c1, rfl, hl1⟩ := f18
      have hm1 : m1 ≤ 100 := by obtain ⟨_, _, h2, _⟩ := hl1; simp only [List.length_cons, List.length_nil] at h2; omega
      go_simp
      refine (refJoin_any A1 m1 c1 _ _ hl1 (by omega) HT.out).mono ?_
      rintro e w1 ⟨A2, n2, c2, bs2, d2, rfl, rfl, ho2⟩
      exact hK.out _ _ (Ex.plus_ _ _ _) ⟨_, _, _, rfl, ho2.mono (by simp [size_plus]; omega)⟩
    | 17, _, ho, hO, hD, hK => 
      obtain rfl := Option.some.inj ho.symm
      clear ho
      have f19 := hD 16 19 (by kernel_rfl)
      generalize eu19 : FA.eval (.tmp 19) = u19 at f19
      have e19 : FA.tmps[19]?.getD undef = u19 := by rw [← eu19]; simp [Act.eval]
      have ev19 := Lib.hid eu19
      clear eu19
      clear hO hD
      go_simp
      exact hK.out _ _ (Ex.refl _) f19
    | (k + 18), hi, _, _, _, _ => exact absurd hi (by omega)
  intro vs x hp
  have p0 : vs 0 = .pointer (some ⟨w.heap.size, 0, none⟩) := hp 0 (by omega)
  have p1 : vs 1 = .int .u8 (a : Int) := hp 1 (by omega)
  have p2 : vs 2 = .pointer (some ⟨w.heap.size, 1, none⟩) := hp 2 (by omega)
  have p3 : vs 3 = .int .u8 (b : Int) := hp 3 (by omega)
  have p4 := hp 4 (by omega)
  have p5 : vs 5 = .pointer (some ⟨w.heap.size, 2, none⟩) := hp 5 (by omega)
  have p6 : vs 6 = .int .u16 (c : Int) := hp 6 (by omega)
  have p7 : vs 7 = .int .u64 (c : Int) := hp 7 (by omega)
  have p8 := hp 8 (by omega)
  have p9 : vs 9 = .pointer (some ⟨w.heap.size, 3, none⟩) := hp 9 (by omega)
  have p10 : vs 10 = .int .u32 (d : Int) := hp 10 (by omega)
  have p11 : vs 11 = .int .u64 (d : Int) := hp 11 (by omega)
  have p12 := hp 12 (by omega)
  have p13 : vs 13 = .pointer (some ⟨w.heap.size, 4, none⟩) := hp 13 (by omega)
  have p14 : vs 14 = .slice A n k := hp 14 (by omega)
  have p15 := hp 15 (by omega)
  have p16 := hp 16 (by omega)
  have p17 := hp 17 (by omega)
  clear hp
  simp only [List.take_succ_cons, List.take_zero, List.drop_succ_cons, List.drop_zero, putAll, Nat.zero_add, Nat.reduceAdd, Act.put, List.setIfInBounds_toArray, List.set_cons_zero, List.set_cons_succ, p0, p1, p2, p3, p5, p6, p7, p9, p10, p11, p13, p14]
  clear p0 p1 p2 p3 p5 p6 p7 p9 p10 p11 p13 p14
  generalize vs 4 = y4 at *
  generalize vs 8 = y8 at *
  generalize vs 12 = y12 at *
  generalize vs 15 = y15 at *
  generalize vs 16 = y16 at *
  generalize vs 17 = y17 at *
  clear vs
  obtain ⟨A9, n9, c9, rfl, h9⟩ := p17
  rw [HE.out] at h9
  go_wp2
  go_ret
  exact RetB.mk h9 (belowP (Below.allocS (Below.refl _ _) _) _ _)
/-- what the checksum covers, ahead of the message -/
def icP (s6 : Bool) (sh sl : Nat) (d6 : Bool) (dh dl : Nat) (z : Nat) : List UInt8 := if s6 then psdB s6 sh sl d6 dh dl 58 z else []
theorem icP_length (s6 : Bool) (sh sl : Nat) (d6 : Bool) (dh dl : Nat) (z : Nat) : (icP s6 sh sl d6 dh dl z).length ≤ 40 := by
  have := psdB_length s6 sh sl d6 dh dl 58 z
  cases s6 <;> simp [icP] at * <;> omega
/-- two slices of bytes -/
def Ret2 (w : World) (l1 l2 : List UInt8) (e : Ending) (w' : World) : Prop := ∃ A1 n1 c1 A2 n2 c2 bs d, e = .returned (.tuple #[.slice A1 n1 c1, .slice A2 n2 c2]) ∧ w' = plus w bs d ∧ Rb (plus w bs d) A1 n1 c1 l1 ∧ Rb (plus w bs d) A2 n2 c2 l2
theorem Ret2.mk {w w' : World} {l1 l2 : List UInt8} {A1 : Option Addr} {n1 c1 : Nat} {A2 : Option Addr} {n2 c2 : Nat} (h1 : Rb w' A1 n1 c1 l1) (h2 : Rb w' A2 n2 c2 l2) (hb : Below w.heap.size w w') : Ret2 w l1 l2 (.returned (.tuple #[.slice A1 n1 c1, .slice A2 n2 c2])) w' := by
  obtain ⟨bs, d, rfl⟩ := plus_of hb
  exact ⟨_, _, _, _, _, _, bs, d, rfl, rfl, h1, h2⟩
set_option maxHeartbeats 4000000 in
set_option maxRecDepth 100000 in
theorem icmpCovered (a b c d : Nat) (A : Option Addr) (n k : Nat) (s6 : Bool) (sh sl : Nat) (d6 : Bool) (dh dl : Nat) (l : List UInt8) (w : World) (ha : a < 256) (hb : b < 256) (hc : c < 65536) (hd : d < 4294967296) (k1 : sh < 18446744073709551616) (k2 : sl < 18446744073709551616) (k3 : dh < 18446744073709551616) (k4 : dl < 18446744073709551616) (h : Rb w A n k l) (hn : n ≤ 10000) : Calls Try.prog 182 #[.agg (msgC a b c d A n k).toArray, .agg (adC s6 sh sl).toArray, .agg (adC d6 dh dl).toArray] w (Ret2 w (icP s6 sh sl d6 dh dl (8 + n)) (icmpB a b c d l)) := by
  obtain ⟨dx, u1, u2⟩ := rowMs
  obtain ⟨dr, r1, r2⟩ := rowMr
  obtain ⟨dy, y1, y2⟩ := rowAd
  have hM : Bk (((w.alloc (.cells (msgC a b c d A n k).toArray 51)).alloc (.cells (adC s6 sh sl).toArray 26)).alloc (.cells (adC d6 dh dl).toArray 26)) w.heap.size 51 (msgC a b c d A n k) := ((Bk.new w 51 (msgC a b c d A n k).toArray).alloc _).alloc _
  have hS : Bk (((w.alloc (.cells (msgC a b c d A n k).toArray 51)).alloc (.cells (adC s6 sh sl).toArray 26)).alloc (.cells (adC d6 dh dl).toArray 26)) (w.heap.size + 1) 26 (adC s6 sh sl) := (Bk.newK _ _ _ (by simp) rfl).alloc _
  have hD : Bk (((w.alloc (.cells (msgC a b c d A n k).toArray 51)).alloc (.cells (adC s6 sh sl).toArray 26)).alloc (.cells (adC d6 dh dl).toArray 26)) (w.heap.size + 1 + 1) 26 (adC d6 dh dl) := Bk.newK _ _ _ (by simp) rfl
  have be : Below w.heap.size w (((w.alloc (.cells (msgC a b c d A n k).toArray 51)).alloc (.cells (adC s6 sh sl).toArray 26)).alloc (.cells (adC d6 dh dl).toArray 26)) := Below.allocS (Below.allocS (Below.allocS (Below.refl _ _) _) _) _
  replace h := ((h.alloc (.cells (msgC a b c d A n k).toArray 51)).alloc (.cells (adC s6 sh sl).toArray 26)).alloc (.cells (adC d6 dh dl).toArray 26)
  have HB := Lib.hid (fun w (h : Rb w A n k l) => icmpBytes a b c d A n k l w ha hb hc hd h (by omega))
  have hlen : n = l.length := h.1.symm
  replace hlen := Lib.hid hlen
  go_enter Try.func182, Try.ntmps182
  go_upto_region 1 with (fail)
  generalize ((w.alloc (.cells (msgC a b c d A n k).toArray 51)).alloc (.cells (adC s6 sh sl).toArray 26)).alloc (.cells (adC d6 dh dl).toArray 26) = W at *
  go_upto_region 2 with (first
    | (refine at_op (.load 51 (.tmp 3)) rfl ?_; refine wpList_ldA (t := 51) 51 (.tmp 3) rfl rfl (msgC a b c d A n k) rfl (by with_reducible repeat (first | exact hM | refine Bk.later ?_ (below_plus _ _ _) | refine Bk.alloc ?_ _)) (whole_ _) u1 u2 (szMs _ _ _ _ _ _ _) ?_)
    | (go_at_call 187; refine (HB.out _ h).mono ?_; rintro e w1 ⟨A1, n1, c1, bs1, d1, rfl, rfl, ho1⟩))
  replace hS := hS.later (below_plus _ bs1 d1)
  replace hD := hD.later (below_plus _ bs1 d1)
  replace be := belowP be bs1 d1
  have hr1 := ho1.rb
  obtain rfl : n1 = 8 + n := by rw [← ho1.1, icmpB_length, hlen.out]
  generalize plus W bs1 d1 = W2 at *
  have q0 : W2.cell? ⟨w.heap.size + 1, 0, none⟩ = some (.bool s6) := hS.cell 0
  cases s6
  · go_wp2
    refine bodyPost_ret (v := .tuple #[.slice none 0 0, .slice A1 (8 + n) c1]) (by simp [results, Try.results182, go_sem]) rfl ?_
    exact Ret2.mk Rb.nil_ hr1 be
  · go_wp2_with (first
      | (refine at_op (.load 26 (.tmp 4)) rfl ?_; refine wpList_ldA (t := 26) 26 (.tmp 4) rfl rfl (adC true sh sl) rfl (by with_reducible repeat (first | exact hS | refine Bk.later ?_ (below_plus _ _ _) | refine Bk.alloc ?_ _)) (whole_ _) y1 y2 (szAd _ _ _) ?_)
      | (refine at_op (.load 26 (.tmp 5)) rfl ?_; refine wpList_ldA (t := 26) 26 (.tmp 5) rfl rfl (adC d6 dh dl) rfl (by with_reducible repeat (first | exact hD | refine Bk.later ?_ (below_plus _ _ _) | refine Bk.alloc ?_ _)) (whole_ _) y1 y2 (szAd _ _ _) ?_)
      | (go_at_call 179; refine (pseudo_any true sh sl d6 dh dl 58 (8 + n) _ k1 k2 k3 k4 (by omega) (by omega)).mono ?_; rintro e w1 ⟨A2, n2, bs2, d2, rfl, rfl, ho2⟩))
    refine bodyPost_ret (v := .tuple #[.slice A2 n2 n2, .slice A1 (8 + n) c1]) (by simp [results, Try.results182, go_sem]) rfl ?_
    exact Ret2.mk ho2.rb (hr1.plus_ _ _) (belowP be _ _)
/-- the sum of all that the checksum covers -/
def icT (s6 : Bool) (sh sl : Nat) (d6 : Bool) (dh dl : Nat) (a b c d : Nat) (l : List UInt8) : Nat := tot false (icP s6 sh sl d6 dh dl (8 + l.length) ++ icmpB a b c d l)
set_option maxHeartbeats 4000000 in
set_option maxRecDepth 100000 in
theorem icmpFine (a b c d : Nat) (A : Option Addr) (n k : Nat) (s6 : Bool) (sh sl : Nat) (d6 : Bool) (dh dl : Nat) (l : List UInt8) (w : World) (ha : a < 256) (hb : b < 256) (hc : c < 65536) (hd : d < 4294967296) (k1 : sh < 18446744073709551616) (k2 : sl < 18446744073709551616) (k3 : dh < 18446744073709551616) (k4 : dl < 18446744073709551616) (h : Rb w A n k l) (hn : n ≤ 10000) : Calls Try.prog 162 #[.agg (msgC a b c d A n k).toArray, .agg (adC s6 sh sl).toArray, .agg (adC d6 dh dl).toArray] w (RetV w (.bool (65535 - fd (icT s6 sh sl d6 dh dl a b c d l) == 0))) := by
  obtain ⟨dx, u1, u2⟩ := rowMs
  obtain ⟨dr, r1, r2⟩ := rowMr
  obtain ⟨dy, y1, y2⟩ := rowAd
  have hM : Bk (((w.alloc (.cells (msgC a b c d A n k).toArray 51)).alloc (.cells (adC s6 sh sl).toArray 26)).alloc (.cells (adC d6 dh dl).toArray 26)) w.heap.size 51 (msgC a b c d A n k) := ((Bk.new w 51 (msgC a b c d A n k).toArray).alloc _).alloc _
  have hS : Bk (((w.alloc (.cells (msgC a b c d A n k).toArray 51)).alloc (.cells (adC s6 sh sl).toArray 26)).alloc (.cells (adC d6 dh dl).toArray 26)) (w.heap.size + 1) 26 (adC s6 sh sl) := (Bk.newK _ _ _ (by simp) rfl).alloc _
  have hD : Bk (((w.alloc (.cells (msgC a b c d A n k).toArray 51)).alloc (.cells (adC s6 sh sl).toArray 26)).alloc (.cells (adC d6 dh dl).toArray 26)) (w.heap.size + 1 + 1) 26 (adC d6 dh dl) := Bk.newK _ _ _ (by simp) rfl
  have be : Below w.heap.size w (((w.alloc (.cells (msgC a b c d A n k).toArray 51)).alloc (.cells (adC s6 sh sl).toArray 26)).alloc (.cells (adC d6 dh dl).toArray 26)) := Below.allocS (Below.allocS (Below.allocS (Below.refl _ _) _) _) _
  replace h := ((h.alloc (.cells (msgC a b c d A n k).toArray 51)).alloc (.cells (adC s6 sh sl).toArray 26)).alloc (.cells (adC d6 dh dl).toArray 26)
  have HC := Lib.hid (fun w (h : Rb w A n k l) => icmpCovered a b c d A n k s6 sh sl d6 dh dl l w ha hb hc hd k1 k2 k3 k4 h hn)
  have hT : ([icP s6 sh sl d6 dh dl (8 + n), icmpB a b c d l] : List (List UInt8)).flatten.length ≤ 1000000 := by have := icP_length s6 sh sl d6 dh dl (8 + n); have := h.1; simp [icmpB_length]; omega
  have HE : Hid (tot false ([icP s6 sh sl d6 dh dl (8 + n), icmpB a b c d l] : List (List UInt8)).flatten = icT s6 sh sl d6 dh dl a b c d l) := Lib.hid (by rw [← h.1]; simp [icT])
  have HO := Lib.hid (fun w A1 c1 (h : RdL w A1 2 [icP s6 sh sl d6 dh dl (8 + n), icmpB a b c d l]) => sumRight A1 2 c1 _ w h (by omega) hT)
  rw [HE.out] at HO
  clear hT
  generalize icT s6 sh sl d6 dh dl a b c d l = t at *
  go_enter Try.func162, Try.ntmps162
  go_upto_region 1 with (fail)
  generalize ((w.alloc (.cells (msgC a b c d A n k).toArray 51)).alloc (.cells (adC s6 sh sl).toArray 26)).alloc (.cells (adC d6 dh dl).toArray 26) = W at *
  go_upto_region 2 with (first
    | (refine at_op (.load 51 (.tmp 3)) rfl ?_; refine wpList_ldA (t := 51) 51 (.tmp 3) rfl rfl (msgC a b c d A n k) rfl (by with_reducible repeat (first | exact hM | refine Bk.later ?_ (below_plus _ _ _) | refine Bk.alloc ?_ _)) (whole_ _) u1 u2 (szMs _ _ _ _ _ _ _) ?_)
    | (refine at_op (.load 26 (.tmp 4)) rfl ?_; refine wpList_ldA (t := 26) 26 (.tmp 4) rfl rfl (adC s6 sh sl) rfl (by with_reducible repeat (first | exact hS | refine Bk.later ?_ (below_plus _ _ _) | refine Bk.alloc ?_ _)) (whole_ _) y1 y2 (szAd _ _ _) ?_)
    | (refine at_op (.load 26 (.tmp 5)) rfl ?_; refine wpList_ldA (t := 26) 26 (.tmp 5) rfl rfl (adC d6 dh dl) rfl (by with_reducible repeat (first | exact hD | refine Bk.later ?_ (below_plus _ _ _) | refine Bk.alloc ?_ _)) (whole_ _) y1 y2 (szAd _ _ _) ?_)
    | (go_at_call 182; refine (HC.out _ h).mono ?_; rintro e w1 ⟨A1, n1, c1, A2, n2, c2, bs1, d1, rfl, rfl, hr1, hr2⟩))
  go_wp2_with fail
  refine (HO.out _ _ _ (RdL.litW [.slice A1 n1 c1, .slice A2 n2 c2] _ (by simp [size_plus]) (.cons ⟨_, _, _, rfl, hr1⟩ (.cons ⟨_, _, _, rfl, hr2⟩ .nil)))).mono ?_
  rintro e w1 ⟨rfl, rfl⟩
  go_wp2
  go_ret
  exact RetV.mk (Below.allocS (belowP be _ _) _)
set_option maxHeartbeats 4000000 in
set_option maxRecDepth 100000 in
theorem refCheck (a b c d : Nat) (A : Option Addr) (n k : Nat) (s6 : Bool) (sh sl : Nat) (d6 : Bool) (dh dl : Nat) (l : List UInt8) (w : World) (ha : a < 256) (hb : b < 256) (hc : c < 65536) (hd : d < 4294967296) (k1 : sh < 18446744073709551616) (k2 : sl < 18446744073709551616) (k3 : dh < 18446744073709551616) (k4 : dl < 18446744073709551616) (h : Rb w A n k l) (hn : n ≤ 10000) : Calls Try.prog 64 #[.agg (msgC a b c d A n k).toArray, .agg (adC s6 sh sl).toArray, .agg (adC d6 dh dl).toArray] w (RetV w (.int .u16 (65535 - fd (icT s6 sh sl d6 dh dl a b c d l) : Nat))) := by
  obtain ⟨dx, u1, u2⟩ := rowMs
  obtain ⟨dr, r1, r2⟩ := rowMr
  obtain ⟨dy, y1, y2⟩ := rowAd
  have hM : Bk (((w.alloc (.cells (msgC a b c d A n k).toArray 58)).alloc (.cells (adC s6 sh sl).toArray 26)).alloc (.cells (adC d6 dh dl).toArray 26)) w.heap.size 58 (msgC a b c d A n k) := ((Bk.new w 58 (msgC a b c d A n k).toArray).alloc _).alloc _
  have hS : Bk (((w.alloc (.cells (msgC a b c d A n k).toArray 58)).alloc (.cells (adC s6 sh sl).toArray 26)).alloc (.cells (adC d6 dh dl).toArray 26)) (w.heap.size + 1) 26 (adC s6 sh sl) := (Bk.newK _ _ _ (by simp) rfl).alloc _
  have hD : Bk (((w.alloc (.cells (msgC a b c d A n k).toArray 58)).alloc (.cells (adC s6 sh sl).toArray 26)).alloc (.cells (adC d6 dh dl).toArray 26)) (w.heap.size + 1 + 1) 26 (adC d6 dh dl) := Bk.newK _ _ _ (by simp) rfl
  have be : Below w.heap.size w (((w.alloc (.cells (msgC a b c d A n k).toArray 58)).alloc (.cells (adC s6 sh sl).toArray 26)).alloc (.cells (adC d6 dh dl).toArray 26)) := Below.allocS (Below.allocS (Below.allocS (Below.refl _ _) _) _) _
  replace h := ((h.alloc (.cells (msgC a b c d A n k).toArray 58)).alloc (.cells (adC s6 sh sl).toArray 26)).alloc (.cells (adC d6 dh dl).toArray 26)
  have HB := Lib.hid (fun w (h : Rb w A n k l) => refIcmpBytes a b c d A n k l w ha hb hc hd h (by omega))
  have HN : Hid (n = l.length) := Lib.hid h.1.symm
  have HL := Lib.hid (icmpB_length a b c d l)
  have HE : Hid (icT s6 sh sl d6 dh dl a b c d l = tot false (icP s6 sh sl d6 dh dl (8 + l.length) ++ icmpB a b c d l)) := Lib.hid rfl
  rw [HE.out]
  clear HE
  generalize icmpB a b c d l = B at *
  go_enter Try.func64, Try.ntmps64
  go_upto_region 1 with (fail)
  generalize ((w.alloc (.cells (msgC a b c d A n k).toArray 58)).alloc (.cells (adC s6 sh sl).toArray 26)).alloc (.cells (adC d6 dh dl).toArray 26) = W at *
  go_upto_region 2 with (first
    | (refine at_op (.load 58 (.tmp 3)) rfl ?_; refine wpList_ldA (t := 58) 58 (.tmp 3) rfl rfl (msgC a b c d A n k) rfl (by with_reducible repeat (first | exact hM | refine Bk.later ?_ (below_plus _ _ _) | refine Bk.alloc ?_ _)) (whole_ _) r1 r2 (szMr _ _ _ _ _ _ _) ?_)
    | (go_at_call 122; refine (HB.out _ h).mono ?_; rintro e w1 ⟨A1, n1, c1, bs1, d1, rfl, rfl, ho1⟩))
  replace hS := hS.later (below_plus _ bs1 d1)
  replace hD := hD.later (below_plus _ bs1 d1)
  replace be := belowP be bs1 d1
  have hr1 := ho1.rb
  have HN1 : Hid (8 + l.length = n1) := Lib.hid (by rw [← ho1.1, HL.out])
  have hn1 : n1 ≤ 10008 := by have := HN1.out; have := HN.out; omega
  have hB : B.length = n1 := ho1.1
  have zb := be.size
  generalize plus W bs1 d1 = W2 at *
  have q0 : W2.cell? ⟨w.heap.size + 1, 0, none⟩ = some (.bool s6) := hS.cell 0
  clear HL ho1 h HB
  cases s6
  · have HO := Lib.hid (fun w (h : Rb w A1 n1 c1 B) => refSumOf A1 n1 c1 B w h (by omega))
    have HZ : Hid (65535 - fd (tot false B) = 65535 - fd (tot false (icP false sh sl d6 dh dl (8 + l.length) ++ B))) := Lib.hid (by simp [icP])
    replace hB := Lib.hid hB
    generalize 65535 - fd (tot false B) = z at *
    go_wp2_with (go_at_call 118; refine (HO.out _ hr1).mono ?_; rintro e w1 ⟨rfl, rfl⟩)
    go_ret
    exact RetV.is_ (by rw [← HZ.out]; rfl) be
  · have hT : ([psdB true sh sl d6 dh dl 58 n1, B] : List (List UInt8)).flatten.length ≤ 40 + n1 := by have := psdB_length true sh sl d6 dh dl 58 n1; simp; omega
    have HZ : Hid (65535 - fd (tot false ([psdB true sh sl d6 dh dl 58 n1, B] : List (List UInt8)).flatten) = 65535 - fd (tot false (icP true sh sl d6 dh dl (8 + l.length) ++ B))) := Lib.hid (by rw [HN1.out]; simp [icP])
    have HJ := Lib.hid (fun w A5 c5 (h : RdL w A5 2 [psdB true sh sl d6 dh dl 58 n1, B]) => refJoin_any A5 2 c5 _ w h (by omega) (by omega))
    have HO := Lib.hid (fun w A5 n5 c5 (h : Rb w A5 n5 c5 ([psdB true sh sl d6 dh dl 58 n1, B] : List (List UInt8)).flatten) => refSumOf A5 n5 c5 _ w h (by rw [← h.1]; omega))
    have HP := Lib.hid (fun w => refPseudo_any true sh sl d6 dh dl 58 n1 w k1 k2 k3 k4 (by omega) (by omega))
    clear hT
    replace hB := Lib.hid hB
    generalize psdB true sh sl d6 dh dl 58 n1 = Pq at *
    generalize 65535 - fd (tot false ([Pq, B] : List (List UInt8)).flatten) = z at *
    go_wp2_with (first
      | (refine at_op (.load 26 (.tmp 4)) rfl ?_; refine wpList_ldA (t := 26) 26 (.tmp 4) rfl rfl (adC true sh sl) rfl (by with_reducible repeat (first | exact hS | refine Bk.later ?_ (below_plus _ _ _) | refine Bk.alloc ?_ _)) (whole_ _) y1 y2 (szAd _ _ _) ?_)
      | (refine at_op (.load 26 (.tmp 5)) rfl ?_; refine wpList_ldA (t := 26) 26 (.tmp 5) rfl rfl (adC d6 dh dl) rfl (by with_reducible repeat (first | exact hD | refine Bk.later ?_ (below_plus _ _ _) | refine Bk.alloc ?_ _)) (whole_ _) y1 y2 (szAd _ _ _) ?_)
      | (go_at_call 120; refine (HP.out _).mono ?_; rintro e w1 ⟨A2, n2, c2, bs2, d2, rfl, rfl, ho2⟩))
    refine (HJ.out _ _ _ (RdL.litW [.slice A2 n2 c2, .slice A1 n1 c1] _ (by simp [size_plus]) (.cons ⟨_, _, _, rfl, ho2.rb⟩ (.cons ⟨_, _, _, rfl, hr1.plus_ _ _⟩ .nil)))).mono ?_
    rintro e w1 ⟨A6, n6, c6, bs6, d6', rfl, rfl, ho6⟩
    go_wp2_with fail
    refine (HO.out _ _ _ _ ho6.rb).mono ?_
    rintro e w1 ⟨rfl, rfl⟩
    go_wp2
    go_ret
    exact RetV.is_ (by rw [← HZ.out]; rfl) (belowP (Below.allocS (belowP be _ _) _) _ _)
/-- a message with its own load -/
def RetMs (w : World) (a b s d : Nat) (l : List UInt8) (e : Ending) (w' : World) : Prop := ∃ A n c bs d', e = .returned (.agg (msgC a b s d A n c).toArray) ∧ w' = plus w bs d' ∧ Rb (plus w bs d') A n c l
theorem RetMs.mk {w w' : World} {a b s d : Nat} {l : List UInt8} {A : Option Addr} {n c : Nat} (ho : Rb w' A n c l) (hb : Below w.heap.size w w') : RetMs w a b s d l (.returned (.agg (msgC a b s d A n c).toArray)) w' := by
  obtain ⟨bs, d, rfl⟩ := plus_of hb
  exact ⟨A, n, c, bs, d, rfl, rfl, ho⟩
end Go.Proofs.Ytfmkndemkpecpaa

/- Contracts of udp.Parse and its reference. -/
namespace Go.Proofs.Ytfmkndemkpecpaa
open Go.RowKit
set_option linter.unusedVariables false
set_option linter.unusedSimpArgs false
attribute [local go_sem ↓] sliced_cut

attribute [local go_sem] cutA_zero

theorem szDg (cs : List Value) (h : cs.length = 4) : (Try.prog.info? 49).map (·.size) = some cs.length := by rw [h]; kernel_rfl
theorem szDgR (cs : List Value) (h : cs.length = 4) : (Try.prog.info? 57).map (·.size) = some cs.length := by rw [h]; kernel_rfl
set_option maxRecDepth 100000 in
theorem run_buildDg0 (w : World) : (Instr.build 49 #[]).run Try.prog w = .ok (.agg #[.int .u16 0, .int .u16 0, .int .u16 0, .slice none 0 0]) w := by kernel_rfl
set_option maxRecDepth 100000 in
theorem run_buildDgR0 (w : World) : (Instr.build 57 #[]).run Try.prog w = .ok (.agg #[.int .u16 0, .int .u16 0, .int .u16 0, .slice none 0 0]) w := by kernel_rfl
theorem dgGetV (A : Option Addr) (n c : Nat) (l : List UInt8) (k s : Int) (k' s' x : Nat) (w : World) (h : Rb w A n c l) (hk : k = k') (hs : s = s') (hx : num ((l.drop k').take s') = x) (hm : n ≤ 1099511627776) (hn : k' + s' ≤ n) (h8 : s' ≤ 8) :
    Calls Try.prog 54 #[.slice A n c, .int .i64 k, .int .i64 s] w fun e w' => e = .returned (.int .u64 (x : Nat)) ∧ w = w' := by
  subst hk hs hx
  exact refGet_any A n c l k' s' w h hm hn h8

def MP.dg (x0 x1 x2 base : Nat) (l : List UInt8) : MP := ⟨fun v w => ∃ A n c, v = .agg #[.int .u16 (x0 : Nat), .int .u16 (x1 : Nat), .int .u16 (x2 : Nat), .slice A n c] ∧ Rb w A n c l ∧ ∀ a, A = some a → base ≤ a.block, fun _ _ _ ⟨A, n, c, h1, h2, h3⟩ h => ⟨A, n, c, h1, h2.later h.below, h3⟩⟩
/-- a datagram in new memory, and a second result -/
def RetDg (w : World) (x0 x1 x2 : Nat) (l : List UInt8) (v : Value) (e : Ending) (w' : World) : Prop :=
  ∃ A n c bs d, e = .returned (.tuple #[.agg #[.int .u16 x0, .int .u16 x1, .int .u16 x2, .slice A n c], v]) ∧ w' = plus w bs d ∧ Rb (plus w bs d) A n c l
theorem RetDg.mk {w w' : World} {x0 x1 x2 : Nat} {l : List UInt8} {A : Option Addr} {n c : Nat} {v : Value} (h1 : Rb w' A n c l) (hb : Below w.heap.size w w') :
    RetDg w x0 x1 x2 l v (.returned (.tuple #[.agg #[.int .u16 x0, .int .u16 x1, .int .u16 x2, .slice A n c], v])) w' := by
  obtain ⟨bs, d, rfl⟩ := plus_of hb
  exact ⟨A, n, c, bs, d, rfl, rfl, h1⟩
/-- the same, the row in a new block -/
def RetDgF (w : World) (x0 x1 x2 : Nat) (l : List UInt8) (v : Value) (e : Ending) (w' : World) : Prop :=
  ∃ A n c bs d, e = .returned (.tuple #[.agg #[.int .u16 x0, .int .u16 x1, .int .u16 x2, .slice A n c], v]) ∧ w' = plus w bs d ∧ Rb (plus w bs d) A n c l ∧ ∀ a, A = some a → w.heap.size ≤ a.block
theorem RetDgF.dg {w : World} {x0 x1 x2 : Nat} {l : List UInt8} {v : Value} {e : Ending} {w' : World} (h : RetDgF w x0 x1 x2 l v e w') : RetDg w x0 x1 x2 l v e w' := by
  obtain ⟨A, n, c, bs, d, h1, h2, h3, -⟩ := h
  exact ⟨A, n, c, bs, d, h1, h2, h3⟩
theorem RetDgF.mk {w w' : World} {x0 x1 x2 : Nat} {l : List UInt8} {A : Option Addr} {n c : Nat} {v : Value} (h1 : Rb w' A n c l) (hf : ∀ a, A = some a → w.heap.size ≤ a.block) (hb : Below w.heap.size w w') :
    RetDgF w x0 x1 x2 l v (.returned (.tuple #[.agg #[.int .u16 x0, .int .u16 x1, .int .u16 x2, .slice A n c], v])) w' := by
  obtain ⟨bs, d, rfl⟩ := plus_of hb
  exact ⟨A, n, c, bs, d, rfl, rfl, h1, hf⟩
theorem RetDg.zero {w w' : World} {v : Value} (hb : Below w.heap.size w w') : RetDg w 0 0 0 [] v (.returned (.tuple #[.agg #[.int .u16 0, .int .u16 0, .int .u16 0, .slice none 0 0], v])) w' := RetDg.mk Rb.nil_ hb
theorem udpParse_short (A : Option Addr) (n c : Nat) (l : List UInt8) (w : World) (hr : Rb w A n c l) (hn : n < 8) : Calls Try.prog 159 #[.slice A n c] w (RetDg w 0 0 0 [] (.int .i64 20)) := by
  have hZ : Bk (w.alloc (.cells #[.int .u16 0, .int .u16 0, .int .u16 0, .slice none 0 0] 49)) w.heap.size 49 [.int .u16 0, .int .u16 0, .int .u16 0, .slice none 0 0] := Bk.new w 49 #[.int .u16 0, .int .u16 0, .int .u16 0, .slice none 0 0]
  go_enter Try.func159, Try.ntmps159
  go_wp2_with (first
    | (refine at_op (.build 49 #[]) rfl ?_; refine wpList_build 49 [] rfl rfl (.agg #[.int .u16 0, .int .u16 0, .int .u16 0, .slice none 0 0]) ?_ ?_; exact run_buildDg0 _)
    | (refine at_op (.store 49 (.tmp 2) (.tmp 10)) rfl ?_; refine wpList_stA (t := 49) 49 (.tmp 2) (.tmp 10) rfl rfl [.int .u16 0, .int .u16 0, .int .u16 0, .slice none 0 0] [.int .u16 0, .int .u16 0, .int .u16 0, .slice none 0 0] rfl (by simp [Value.oneCell']) rfl rfl hZ (szDg _ rfl) ?_; intro w2 hb2 hg2))
  refine bodyPost_agg2 Try.results159 rfl rfl hb2.range Try.underlying49 rfl (szDg _ rfl) rfl (RetDg.zero ?_)
  exact below_grown ((Below.refl _ _).alloc (Nat.le_refl _) _) hg2 (Nat.le_refl _)
theorem refUdpParse_short (A : Option Addr) (n c : Nat) (l : List UInt8) (w : World) (hr : Rb w A n c l) (hn : n < 8) : Calls Try.prog 61 #[.slice A n c] w (RetDg w 0 0 0 [] (.int .i64 20)) := by
  have hZ : Bk (w.alloc (.cells #[.int .u16 0, .int .u16 0, .int .u16 0, .slice none 0 0] 57)) w.heap.size 57 [.int .u16 0, .int .u16 0, .int .u16 0, .slice none 0 0] := Bk.new w 57 #[.int .u16 0, .int .u16 0, .int .u16 0, .slice none 0 0]
  go_enter Try.func61, Try.ntmps61
  go_wp2_with (first
    | (refine at_op (.build 57 #[]) rfl ?_; refine wpList_build 57 [] rfl rfl (.agg #[.int .u16 0, .int .u16 0, .int .u16 0, .slice none 0 0]) ?_ ?_; exact run_buildDgR0 _)
    | (refine at_op (.store 57 (.tmp 2) (.tmp 8)) rfl ?_; refine wpList_stA (t := 57) 57 (.tmp 2) (.tmp 8) rfl rfl [.int .u16 0, .int .u16 0, .int .u16 0, .slice none 0 0] [.int .u16 0, .int .u16 0, .int .u16 0, .slice none 0 0] rfl (by simp [Value.oneCell']) rfl rfl hZ (szDgR _ rfl) ?_; intro w2 hb2 hg2))
  refine bodyPost_agg2 Try.results61 rfl rfl hb2.range Try.underlying57 rfl (szDgR _ rfl) rfl (RetDg.zero ?_)
  exact below_grown ((Below.refl _ _).alloc (Nat.le_refl _) _) hg2 (Nat.le_refl _)

set_option maxHeartbeats 4000000 in
set_option maxRecDepth 100000 in
theorem udpParse_form (A : Option Addr) (n c : Nat) (l : List UInt8) (w : World) (hr : Rb w A n c l) (h8 : 8 ≤ n) (hn : n ≤ 1000000) (x0 : Nat) (x1 : Nat) (xs : Nat) (x2 : Nat) (hx0 : num ((l.drop 0).take 2) = x0) (hx1 : num ((l.drop 2).take 2) = x1) (hxs : num ((l.drop 4).take 2) = xs) (hx2 : num ((l.drop 6).take 2) = x2) (hs : xs < 8) :
    Calls Try.prog 159 #[.slice A n c] w (RetDg w 0 0 0 [] (.int .i64 21)) := by
  have hc := hr.cap
  have h8i : (8 : Int) ≤ (n : Int) := by omega
  have kxs : xs < 65536 := by rw [← hxs]; exact num_lt' l 4 2 65536 (by decide)
  have Hx0 := Lib.hid hx0
  have Hx1 := Lib.hid hx1
  have Hxs := Lib.hid hxs
  have Hx2 := Lib.hid hx2
  clear hx0 hx1 hxs hx2
  have t1 : decide ((xs : Int) < 8) = true := by simp; omega
  go_enter Try.func159, Try.ntmps159
  go_wp2_with fail
  refine (readK _ _ _ (l.take 8) _ ((hr.take h8).alloc _) (by omega)).mono ?_
  rintro e w1 ⟨r, bs1, d1, rfl, rfl, hr1, hR0⟩
  have HL := Lib.hid (show (l.take 8).length = 8 by rw [List.length_take, hr.1]; omega)
  go_wp2_with fail
  refine (wordK _ _ _ r (l.take 8) 0 x0 hR0 hr1 (by rw [HL.out]; omega) (by rw [HL.out]; omega) (by rw [num_in _ _ _ _ (by omega)]; exact Hx0.out)).mono ?_
  rintro e w1 ⟨bs2, d2, rfl, rfl, hR1, -⟩
  go_wp2_with fail
  refine (wordK _ _ _ r (l.take 8) 2 x1 hR1 hr1 (by rw [HL.out]; omega) (by rw [HL.out]; omega) (by rw [num_in _ _ _ _ (by omega)]; exact Hx1.out)).mono ?_
  rintro e w1 ⟨bs3, d3, rfl, rfl, hR2, -⟩
  have hB0 : Below w.heap.size w (plus (w.alloc (.cells #[.int .u16 0, .int .u16 0, .int .u16 0, .slice none 0 0] 49)) bs3 d3) := belowP ((Below.refl _ _).alloc (Nat.le_refl _) _) _ _
  have hX6 : Bk ((plus (w.alloc (.cells #[.int .u16 0, .int .u16 0, .int .u16 0, .slice none 0 0] 49)) bs3 d3).alloc (.cells #[.int .u16 (x0 : Nat), .int .u16 (x1 : Nat), .int .u16 0, .slice none 0 0] 49)) (w.heap.size + 1 + bs3.length) 49 [.int .u16 (x0 : Nat), .int .u16 (x1 : Nat), .int .u16 0, .slice none 0 0] := by
    have := Bk.new (plus (w.alloc (.cells #[.int .u16 0, .int .u16 0, .int .u16 0, .slice none 0 0] 49)) bs3 d3) 49 #[.int .u16 (x0 : Nat), .int .u16 (x1 : Nat), .int .u16 0, .slice none 0 0]
    rw [size_plus, World.size_alloc] at this
    exact this
  have hZ6 : Bk ((plus (w.alloc (.cells #[.int .u16 0, .int .u16 0, .int .u16 0, .slice none 0 0] 49)) bs3 d3).alloc (.cells #[.int .u16 (x0 : Nat), .int .u16 (x1 : Nat), .int .u16 0, .slice none 0 0] 49)) w.heap.size 49 [.int .u16 0, .int .u16 0, .int .u16 0, .slice none 0 0] := ((Bk.new w 49 #[.int .u16 0, .int .u16 0, .int .u16 0, .slice none 0 0]).later (below_plus _ _ _)).alloc _
  have hlt : r < w.heap.size + 1 + bs3.length := by have := hR2.lt; simpa [size_plus] using this
  have hR6 := hR2.later ((Below.refl _ _).alloc (Nat.le_refl _) (.cells #[.int .u16 (x0 : Nat), .int .u16 (x1 : Nat), .int .u16 0, .slice none 0 0] 49))
  have hB6 := hB0.alloc hB0.size (.cells #[.int .u16 (x0 : Nat), .int .u16 (x1 : Nat), .int .u16 0, .slice none 0 0] 49)
  have hr2 : w.heap.size < r := by have := hr1; simp at this; omega
  go_wp2_with fail
  generalize (plus (w.alloc (.cells #[.int .u16 0, .int .u16 0, .int .u16 0, .slice none 0 0] 49)) bs3 d3).alloc _ = W1 at hX6 hZ6 hR6 hB6 ⊢
  generalize w.heap.size + 1 + bs3.length = g at *
  refine (wordG _ r (l.take 8) 4 xs hR6 (by rw [HL.out]; omega) (by rw [HL.out]; omega) (by rw [num_in _ _ _ _ (by omega)]; exact Hxs.out)).mono ?_
  clear hR6
  rintro e w1 ⟨rfl, hR6, hg6⟩
  replace hX6 := hX6.grown hg6 (by simp; omega)
  replace hZ6 := hZ6.grown hg6 (by simp; omega)
  replace hB6 := hB6.trans (below_of_grown hg6 hB6.size (fun k hk => by injection hk with hk; omega))
  clear hg6 hR0 hR1 hR2 hB0
  go_wp2_with (first
    | (refine at_op (.build 49 #[]) rfl ?_; refine wpList_build 49 [] rfl rfl (.agg #[.int .u16 0, .int .u16 0, .int .u16 0, .slice none 0 0]) ?_ ?_; exact run_buildDg0 _)
    | (refine at_op (.store 49 (.tmp 2) (.tmp 24)) rfl ?_; refine wpList_stA (t := 49) 49 (.tmp 2) (.tmp 24) rfl rfl [.int .u16 0, .int .u16 0, .int .u16 0, .slice none 0 0] [.int .u16 0, .int .u16 0, .int .u16 0, .slice none 0 0] rfl (by simp [Value.oneCell']) rfl rfl hZ6 (szDg _ rfl) ?_; intro w2 hb2 hg2))
  refine bodyPost_agg2 Try.results159 rfl rfl hb2.range Try.underlying49 rfl (szDg _ rfl) rfl (RetDg.zero ?_)
  exact below_grown hB6 hg2 (Nat.le_refl _)

set_option maxHeartbeats 4000000 in
set_option maxRecDepth 100000 in
theorem udpParse_short2 (A : Option Addr) (n c : Nat) (l : List UInt8) (w : World) (hr : Rb w A n c l) (h8 : 8 ≤ n) (hn : n ≤ 1000000) (x0 : Nat) (x1 : Nat) (xs : Nat) (x2 : Nat) (hx0 : num ((l.drop 0).take 2) = x0) (hx1 : num ((l.drop 2).take 2) = x1) (hxs : num ((l.drop 4).take 2) = xs) (hx2 : num ((l.drop 6).take 2) = x2) (hs : 8 ≤ xs) (hz : n < xs) :
    Calls Try.prog 159 #[.slice A n c] w (RetDg w 0 0 0 [] (.int .i64 20)) := by
  have hc := hr.cap
  have h8i : (8 : Int) ≤ (n : Int) := by omega
  have kxs : xs < 65536 := by rw [← hxs]; exact num_lt' l 4 2 65536 (by decide)
  have Hx0 := Lib.hid hx0
  have Hx1 := Lib.hid hx1
  have Hxs := Lib.hid hxs
  have Hx2 := Lib.hid hx2
  clear hx0 hx1 hxs hx2
  have t1 : decide ((xs : Int) < 8) = false := by simp; omega
  have t2 : decide (n < xs) = true := by simp; omega
  go_enter Try.func159, Try.ntmps159
  go_wp2_with fail
  refine (readK _ _ _ (l.take 8) _ ((hr.take h8).alloc _) (by omega)).mono ?_
  rintro e w1 ⟨r, bs1, d1, rfl, rfl, hr1, hR0⟩
  have HL := Lib.hid (show (l.take 8).length = 8 by rw [List.length_take, hr.1]; omega)
  go_wp2_with fail
  refine (wordK _ _ _ r (l.take 8) 0 x0 hR0 hr1 (by rw [HL.out]; omega) (by rw [HL.out]; omega) (by rw [num_in _ _ _ _ (by omega)]; exact Hx0.out)).mono ?_
  rintro e w1 ⟨bs2, d2, rfl, rfl, hR1, -⟩
  go_wp2_with fail
  refine (wordK _ _ _ r (l.take 8) 2 x1 hR1 hr1 (by rw [HL.out]; omega) (by rw [HL.out]; omega) (by rw [num_in _ _ _ _ (by omega)]; exact Hx1.out)).mono ?_
  rintro e w1 ⟨bs3, d3, rfl, rfl, hR2, -⟩
  have hB0 : Below w.heap.size w (plus (w.alloc (.cells #[.int .u16 0, .int .u16 0, .int .u16 0, .slice none 0 0] 49)) bs3 d3) := belowP ((Below.refl _ _).alloc (Nat.le_refl _) _) _ _
  have hX6 : Bk ((plus (w.alloc (.cells #[.int .u16 0, .int .u16 0, .int .u16 0, .slice none 0 0] 49)) bs3 d3).alloc (.cells #[.int .u16 (x0 : Nat), .int .u16 (x1 : Nat), .int .u16 0, .slice none 0 0] 49)) (w.heap.size + 1 + bs3.length) 49 [.int .u16 (x0 : Nat), .int .u16 (x1 : Nat), .int .u16 0, .slice none 0 0] := by
    have := Bk.new (plus (w.alloc (.cells #[.int .u16 0, .int .u16 0, .int .u16 0, .slice none 0 0] 49)) bs3 d3) 49 #[.int .u16 (x0 : Nat), .int .u16 (x1 : Nat), .int .u16 0, .slice none 0 0]
    rw [size_plus, World.size_alloc] at this
    exact this
  have hZ6 : Bk ((plus (w.alloc (.cells #[.int .u16 0, .int .u16 0, .int .u16 0, .slice none 0 0] 49)) bs3 d3).alloc (.cells #[.int .u16 (x0 : Nat), .int .u16 (x1 : Nat), .int .u16 0, .slice none 0 0] 49)) w.heap.size 49 [.int .u16 0, .int .u16 0, .int .u16 0, .slice none 0 0] := ((Bk.new w 49 #[.int .u16 0, .int .u16 0, .int .u16 0, .slice none 0 0]).later (below_plus _ _ _)).alloc _
  have hlt : r < w.heap.size + 1 + bs3.length := by have := hR2.lt; simpa [size_plus] using this
  have hR6 := hR2.later ((Below.refl _ _).alloc (Nat.le_refl _) (.cells #[.int .u16 (x0 : Nat), .int .u16 (x1 : Nat), .int .u16 0, .slice none 0 0] 49))
  have hB6 := hB0.alloc hB0.size (.cells #[.int .u16 (x0 : Nat), .int .u16 (x1 : Nat), .int .u16 0, .slice none 0 0] 49)
  have hr2 : w.heap.size < r := by have := hr1; simp at this; omega
  go_wp2_with fail
  generalize (plus (w.alloc (.cells #[.int .u16 0, .int .u16 0, .int .u16 0, .slice none 0 0] 49)) bs3 d3).alloc _ = W1 at hX6 hZ6 hR6 hB6 ⊢
  generalize w.heap.size + 1 + bs3.length = g at *
  refine (wordG _ r (l.take 8) 4 xs hR6 (by rw [HL.out]; omega) (by rw [HL.out]; omega) (by rw [num_in _ _ _ _ (by omega)]; exact Hxs.out)).mono ?_
  clear hR6
  rintro e w1 ⟨rfl, hR6, hg6⟩
  replace hX6 := hX6.grown hg6 (by simp; omega)
  replace hZ6 := hZ6.grown hg6 (by simp; omega)
  replace hB6 := hB6.trans (below_of_grown hg6 hB6.size (fun k hk => by injection hk with hk; omega))
  clear hg6 hR0 hR1 hR2 hB0
  go_wp2_with (first
    | (refine at_op (.build 49 #[]) rfl ?_; refine wpList_build 49 [] rfl rfl (.agg #[.int .u16 0, .int .u16 0, .int .u16 0, .slice none 0 0]) ?_ ?_; exact run_buildDg0 _)
    | (refine at_op (.store 49 (.tmp 2) (.tmp 29)) rfl ?_; refine wpList_stA (t := 49) 49 (.tmp 2) (.tmp 29) rfl rfl [.int .u16 0, .int .u16 0, .int .u16 0, .slice none 0 0] [.int .u16 0, .int .u16 0, .int .u16 0, .slice none 0 0] rfl (by simp [Value.oneCell']) rfl rfl hZ6 (szDg _ rfl) ?_; intro w2 hb2 hg2))
  refine bodyPost_agg2 Try.results159 rfl rfl hb2.range Try.underlying49 rfl (szDg _ rfl) rfl (RetDg.zero ?_)
  exact below_grown hB6 hg2 (Nat.le_refl _)

set_option maxHeartbeats 4000000 in
set_option maxRecDepth 100000 in
theorem udpParse_okF (A : Option Addr) (n c : Nat) (l : List UInt8) (w : World) (hr : Rb w A n c l) (h8 : 8 ≤ n) (hn : n ≤ 1000000) (x0 : Nat) (x1 : Nat) (xs : Nat) (x2 : Nat) (hx0 : num ((l.drop 0).take 2) = x0) (hx1 : num ((l.drop 2).take 2) = x1) (hxs : num ((l.drop 4).take 2) = xs) (hx2 : num ((l.drop 6).take 2) = x2) (hs : 8 ≤ xs) (hz : xs ≤ n) :
    Calls Try.prog 159 #[.slice A n c] w (RetDgF w x0 x1 x2 ((l.drop 8).take (xs - 8)) (.int .i64 0)) := by
  have hc := hr.cap
  have h8i : (8 : Int) ≤ (n : Int) := by omega
  have kxs : xs < 65536 := by rw [← hxs]; exact num_lt' l 4 2 65536 (by decide)
  have Hx0 := Lib.hid hx0
  have Hx1 := Lib.hid hx1
  have Hxs := Lib.hid hxs
  have Hx2 := Lib.hid hx2
  clear hx0 hx1 hxs hx2
  have t1 : decide ((xs : Int) < 8) = false := by simp; omega
  have t2 : decide (n < xs) = false := by simp; omega
  go_enter Try.func159, Try.ntmps159
  go_wp2_with fail
  refine (readK _ _ _ (l.take 8) _ ((hr.take h8).alloc _) (by omega)).mono ?_
  rintro e w1 ⟨r, bs1, d1, rfl, rfl, hr1, hR0⟩
  have HL := Lib.hid (show (l.take 8).length = 8 by rw [List.length_take, hr.1]; omega)
  go_wp2_with fail
  refine (wordK _ _ _ r (l.take 8) 0 x0 hR0 hr1 (by rw [HL.out]; omega) (by rw [HL.out]; omega) (by rw [num_in _ _ _ _ (by omega)]; exact Hx0.out)).mono ?_
  rintro e w1 ⟨bs2, d2, rfl, rfl, hR1, -⟩
  go_wp2_with fail
  refine (wordK _ _ _ r (l.take 8) 2 x1 hR1 hr1 (by rw [HL.out]; omega) (by rw [HL.out]; omega) (by rw [num_in _ _ _ _ (by omega)]; exact Hx1.out)).mono ?_
  rintro e w1 ⟨bs3, d3, rfl, rfl, hR2, -⟩
  have hB0 : Below w.heap.size w (plus (w.alloc (.cells #[.int .u16 0, .int .u16 0, .int .u16 0, .slice none 0 0] 49)) bs3 d3) := belowP ((Below.refl _ _).alloc (Nat.le_refl _) _) _ _
  have hX6 : Bk ((plus (w.alloc (.cells #[.int .u16 0, .int .u16 0, .int .u16 0, .slice none 0 0] 49)) bs3 d3).alloc (.cells #[.int .u16 (x0 : Nat), .int .u16 (x1 : Nat), .int .u16 0, .slice none 0 0] 49)) (w.heap.size + 1 + bs3.length) 49 [.int .u16 (x0 : Nat), .int .u16 (x1 : Nat), .int .u16 0, .slice none 0 0] := by
    have := Bk.new (plus (w.alloc (.cells #[.int .u16 0, .int .u16 0, .int .u16 0, .slice none 0 0] 49)) bs3 d3) 49 #[.int .u16 (x0 : Nat), .int .u16 (x1 : Nat), .int .u16 0, .slice none 0 0]
    rw [size_plus, World.size_alloc] at this
    exact this
  have hZ6 : Bk ((plus (w.alloc (.cells #[.int .u16 0, .int .u16 0, .int .u16 0, .slice none 0 0] 49)) bs3 d3).alloc (.cells #[.int .u16 (x0 : Nat), .int .u16 (x1 : Nat), .int .u16 0, .slice none 0 0] 49)) w.heap.size 49 [.int .u16 0, .int .u16 0, .int .u16 0, .slice none 0 0] := ((Bk.new w 49 #[.int .u16 0, .int .u16 0, .int .u16 0, .slice none 0 0]).later (below_plus _ _ _)).alloc _
  have hlt : r < w.heap.size + 1 + bs3.length := by have := hR2.lt; simpa [size_plus] using this
  have hR6 := hR2.later ((Below.refl _ _).alloc (Nat.le_refl _) (.cells #[.int .u16 (x0 : Nat), .int .u16 (x1 : Nat), .int .u16 0, .slice none 0 0] 49))
  have hB6 := hB0.alloc hB0.size (.cells #[.int .u16 (x0 : Nat), .int .u16 (x1 : Nat), .int .u16 0, .slice none 0 0] 49)
  have hr2 : w.heap.size < r := by have := hr1; simp at this; omega
  go_wp2_with fail
  generalize (plus (w.alloc (.cells #[.int .u16 0, .int .u16 0, .int .u16 0, .slice none 0 0] 49)) bs3 d3).alloc _ = W1 at hX6 hZ6 hR6 hB6 ⊢
  generalize w.heap.size + 1 + bs3.length = g at *
  refine (wordG _ r (l.take 8) 4 xs hR6 (by rw [HL.out]; omega) (by rw [HL.out]; omega) (by rw [num_in _ _ _ _ (by omega)]; exact Hxs.out)).mono ?_
  clear hR6
  rintro e w1 ⟨rfl, hR6, hg6⟩
  replace hX6 := hX6.grown hg6 (by simp; omega)
  replace hZ6 := hZ6.grown hg6 (by simp; omega)
  replace hB6 := hB6.trans (below_of_grown hg6 hB6.size (fun k hk => by injection hk with hk; omega))
  clear hg6 hR0 hR1 hR2 hB0
  go_wp2_with fail
  refine (wordG _ r (l.take 8) 6 x2 hR6 (by rw [HL.out]; omega) (by rw [HL.out]; omega) (by rw [num_in _ _ _ _ (by omega)]; exact Hx2.out)).mono ?_
  clear hR6
  rintro e v0 ⟨rfl, hR6, hg6⟩
  replace hX6 := hX6.grown hg6 (by simp; omega)
  replace hZ6 := hZ6.grown hg6 (by simp; omega)
  replace hB6 := hB6.trans (below_of_grown hg6 hB6.size (fun k hk => by injection hk with hk; omega))
  clear hg6
  have q : v0.cell? ⟨g, 2, none⟩ = some (.int .u16 0) := hX6.cell 2
  have f := hX6.frozen 2
  go_wp2_with fail
  clear q f
  replace hX6 := hX6.set_ 2 (.int .u16 (x2 : Nat))
  simp only [List.set_cons_zero, List.set_cons_succ] at hX6
  replace hZ6 := hZ6.far (p := ⟨g, 2, none⟩) (by simp; omega) (.int .u16 (x2 : Nat))
  replace hB6 := hB6.setCell (p := ⟨g, 2, none⟩) (by simp; omega) (.int .u16 (x2 : Nat))
  clear hR6
  generalize v0.setCell ⟨g, 2, none⟩ (.int .u16 (x2 : Nat)) = W3 at hX6 hZ6 hB6 ⊢
  refine (clone_any _ _ _ ((l.drop 8).take (xs - 8)) _ (((hr.cut (k := 8) (by omega)).take (k := xs - 8) (by omega)).later hB6) (by omega)).mono ?_
  rintro e wc ⟨A1, n1, c1, bsA, dA, rfl, rfl, ho0⟩
  have q : W3.cell? ⟨g, 3, none⟩ = some (.slice none 0 0) := hX6.cell 3
  have f := hX6.frozen 3
  have hgl := hX6.lt
  go_upto_region 12 with fail
  clear q f
  replace ho0 := (ho0.swap (W' := W3.setCell ⟨g, 3, none⟩ (.slice A1 n1 c1)) (d' := dA) (Nat.le_refl _) (by simp)).mono (show w.heap.size + 1 ≤ W3.heap.size by omega)
  replace hX6 := (hX6.set_ 3 (.slice A1 n1 c1)).later (below_plus _ bsA dA)
  simp only [List.set_cons_zero, List.set_cons_succ] at hX6
  replace hZ6 := (hZ6.far (p := ⟨g, 3, none⟩) (by simp; omega) (.slice A1 n1 c1)).later (below_plus _ bsA dA)
  replace hB6 := belowP (hB6.setCell (p := ⟨g, 3, none⟩) (by simp; omega) (.slice A1 n1 c1)) bsA dA
  generalize plus (W3.setCell ⟨g, 3, none⟩ (.slice A1 n1 c1)) bsA dA = W5 at hX6 hZ6 hB6 ho0 ⊢
  go_wp2_with (first
    | (refine at_op (.load 49 (.tmp 5)) rfl ?_; refine wpList_ldA (t := 49) 49 (.tmp 5) rfl rfl [.int .u16 (x0 : Nat), .int .u16 (x1 : Nat), .int .u16 (x2 : Nat), .slice A1 n1 c1] rfl hX6 rfl Try.underlying49 rfl (szDg _ rfl) ?_)
    | (refine at_op (.store 49 (.tmp 2) (.tmp 38)) rfl ?_; refine wpList_stA (t := 49) 49 (.tmp 2) (.tmp 38) rfl rfl [.int .u16 (x0 : Nat), .int .u16 (x1 : Nat), .int .u16 (x2 : Nat), .slice A1 n1 c1] [.int .u16 0, .int .u16 0, .int .u16 0, .slice none 0 0] rfl (by simp [Value.oneCell']) rfl rfl hZ6 (szDg _ rfl) ?_; intro w2 hb2 hg2))
  refine bodyPost_agg2 Try.results159 rfl rfl hb2.range Try.underlying49 rfl (szDg _ rfl) rfl (RetDgF.mk ?_ ?_ (below_grown hB6 hg2 (Nat.le_refl _)))
  · exact (ho0.grown hg2 (fun k hk => by have := (ho0.blk k hk).1; simp; omega)).rb
  · intro a ha
    subst ha
    have := (ho0.blk a.block rfl).1
    omega

set_option maxHeartbeats 4000000 in
set_option maxRecDepth 100000 in
theorem refUdpParse_form (A : Option Addr) (n c : Nat) (l : List UInt8) (w : World) (hr : Rb w A n c l) (h8 : 8 ≤ n) (hn : n ≤ 1000000) (x0 : Nat) (x1 : Nat) (xs : Nat) (x2 : Nat) (hx0 : num ((l.drop 0).take 2) = x0) (hx1 : num ((l.drop 2).take 2) = x1) (hxs : num ((l.drop 4).take 2) = xs) (hx2 : num ((l.drop 6).take 2) = x2) (hs : xs < 8) :
    Calls Try.prog 61 #[.slice A n c] w (RetDg w 0 0 0 [] (.int .i64 21)) := by
  have hc := hr.cap
  have h8i : (8 : Int) ≤ (n : Int) := by omega
  have kx0 : x0 < 65536 := by rw [← hx0]; exact num_lt' l 0 2 65536 (by decide)
  have kx1 : x1 < 65536 := by rw [← hx1]; exact num_lt' l 2 2 65536 (by decide)
  have kxs : xs < 65536 := by rw [← hxs]; exact num_lt' l 4 2 65536 (by decide)
  have kx2 : x2 < 65536 := by rw [← hx2]; exact num_lt' l 6 2 65536 (by decide)
  have Hx0 := Lib.hid hx0
  have Hx1 := Lib.hid hx1
  have Hxs := Lib.hid hxs
  have Hx2 := Lib.hid hx2
  clear hx0 hx1 hxs hx2
  have cw : ∀ y : Nat, y < 65536 → IntKind.u16.wrap (y : Int) = (y : Int) := fun y hy => by rw [IntKind.wrap_u16]; omega
  have cx0 := cw x0 kx0
  have cx1 := cw x1 kx1
  have cx2 := cw x2 kx2
  clear cw
  have t1 : decide ((xs : Int) < 8) = true := by simp; omega
  have hZ : Bk (w.alloc (.cells #[.int .u16 0, .int .u16 0, .int .u16 0, .slice none 0 0] 57)) w.heap.size 57 [.int .u16 0, .int .u16 0, .int .u16 0, .slice none 0 0] := Bk.new w 57 #[.int .u16 0, .int .u16 0, .int .u16 0, .slice none 0 0]
  go_enter Try.func61, Try.ntmps61
  go_wp2_with fail
  refine (dgGetV _ n c l _ _ 4 2 xs _ (hr.alloc _) rfl rfl Hxs.out (by omega) (by omega) (by omega)).mono ?_
  rintro e w1 ⟨rfl, rfl⟩
  go_wp2_with (first
    | (refine at_op (.build 57 #[]) rfl ?_; refine wpList_build 57 [] rfl rfl (.agg #[.int .u16 0, .int .u16 0, .int .u16 0, .slice none 0 0]) ?_ ?_; exact run_buildDgR0 _)
    | (refine at_op (.store 57 (.tmp 2) (.tmp 14)) rfl ?_; refine wpList_stA (t := 57) 57 (.tmp 2) (.tmp 14) rfl rfl [.int .u16 0, .int .u16 0, .int .u16 0, .slice none 0 0] [.int .u16 0, .int .u16 0, .int .u16 0, .slice none 0 0] rfl (by simp [Value.oneCell']) rfl rfl hZ (szDgR _ rfl) ?_; intro w2 hb2 hg2))
  refine bodyPost_agg2 Try.results61 rfl rfl hb2.range Try.underlying57 rfl (szDgR _ rfl) rfl (RetDg.zero ?_)
  exact below_grown ((Below.refl _ _).alloc (Nat.le_refl _) _) hg2 (Nat.le_refl _)

set_option maxHeartbeats 4000000 in
set_option maxRecDepth 100000 in
theorem refUdpParse_short2 (A : Option Addr) (n c : Nat) (l : List UInt8) (w : World) (hr : Rb w A n c l) (h8 : 8 ≤ n) (hn : n ≤ 1000000) (x0 : Nat) (x1 : Nat) (xs : Nat) (x2 : Nat) (hx0 : num ((l.drop 0).take 2) = x0) (hx1 : num ((l.drop 2).take 2) = x1) (hxs : num ((l.drop 4).take 2) = xs) (hx2 : num ((l.drop 6).take 2) = x2) (hs : 8 ≤ xs) (hz : n < xs) :
    Calls Try.prog 61 #[.slice A n c] w (RetDg w 0 0 0 [] (.int .i64 20)) := by
  have hc := hr.cap
  have h8i : (8 : Int) ≤ (n : Int) := by omega
  have kx0 : x0 < 65536 := by rw [← hx0]; exact num_lt' l 0 2 65536 (by decide)
  have kx1 : x1 < 65536 := by rw [← hx1]; exact num_lt' l 2 2 65536 (by decide)
  have kxs : xs < 65536 := by rw [← hxs]; exact num_lt' l 4 2 65536 (by decide)
  have kx2 : x2 < 65536 := by rw [← hx2]; exact num_lt' l 6 2 65536 (by decide)
  have Hx0 := Lib.hid hx0
  have Hx1 := Lib.hid hx1
  have Hxs := Lib.hid hxs
  have Hx2 := Lib.hid hx2
  clear hx0 hx1 hxs hx2
  have cw : ∀ y : Nat, y < 65536 → IntKind.u16.wrap (y : Int) = (y : Int) := fun y hy => by rw [IntKind.wrap_u16]; omega
  have cx0 := cw x0 kx0
  have cx1 := cw x1 kx1
  have cx2 := cw x2 kx2
  clear cw
  have t1 : decide ((xs : Int) < 8) = false := by simp; omega
  have t2 : decide (n < xs) = true := by simp; omega
  have hZ : Bk (w.alloc (.cells #[.int .u16 0, .int .u16 0, .int .u16 0, .slice none 0 0] 57)) w.heap.size 57 [.int .u16 0, .int .u16 0, .int .u16 0, .slice none 0 0] := Bk.new w 57 #[.int .u16 0, .int .u16 0, .int .u16 0, .slice none 0 0]
  go_enter Try.func61, Try.ntmps61
  go_wp2_with fail
  refine (dgGetV _ n c l _ _ 4 2 xs _ (hr.alloc _) rfl rfl Hxs.out (by omega) (by omega) (by omega)).mono ?_
  rintro e w1 ⟨rfl, rfl⟩
  go_wp2_with (first
    | (refine at_op (.build 57 #[]) rfl ?_; refine wpList_build 57 [] rfl rfl (.agg #[.int .u16 0, .int .u16 0, .int .u16 0, .slice none 0 0]) ?_ ?_; exact run_buildDgR0 _)
    | (refine at_op (.store 57 (.tmp 2) (.tmp 19)) rfl ?_; refine wpList_stA (t := 57) 57 (.tmp 2) (.tmp 19) rfl rfl [.int .u16 0, .int .u16 0, .int .u16 0, .slice none 0 0] [.int .u16 0, .int .u16 0, .int .u16 0, .slice none 0 0] rfl (by simp [Value.oneCell']) rfl rfl hZ (szDgR _ rfl) ?_; intro w2 hb2 hg2))
  refine bodyPost_agg2 Try.results61 rfl rfl hb2.range Try.underlying57 rfl (szDgR _ rfl) rfl (RetDg.zero ?_)
  exact below_grown ((Below.refl _ _).alloc (Nat.le_refl _) _) hg2 (Nat.le_refl _)

set_option maxHeartbeats 4000000 in
set_option maxRecDepth 100000 in
theorem refUdpParse_okF (A : Option Addr) (n c : Nat) (l : List UInt8) (w : World) (hr : Rb w A n c l) (h8 : 8 ≤ n) (hn : n ≤ 1000000) (x0 : Nat) (x1 : Nat) (xs : Nat) (x2 : Nat) (hx0 : num ((l.drop 0).take 2) = x0) (hx1 : num ((l.drop 2).take 2) = x1) (hxs : num ((l.drop 4).take 2) = xs) (hx2 : num ((l.drop 6).take 2) = x2) (hs : 8 ≤ xs) (hz : xs ≤ n) :
    Calls Try.prog 61 #[.slice A n c] w (RetDgF w x0 x1 x2 ((l.drop 8).take (xs - 8)) (.int .i64 0)) := by
  have hc := hr.cap
  have h8i : (8 : Int) ≤ (n : Int) := by omega
  have kx0 : x0 < 65536 := by rw [← hx0]; exact num_lt' l 0 2 65536 (by decide)
  have kx1 : x1 < 65536 := by rw [← hx1]; exact num_lt' l 2 2 65536 (by decide)
  have kxs : xs < 65536 := by rw [← hxs]; exact num_lt' l 4 2 65536 (by decide)
  have kx2 : x2 < 65536 := by rw [← hx2]; exact num_lt' l 6 2 65536 (by decide)
  have Hx0 := Lib.hid hx0
  have Hx1 := Lib.hid hx1
  have Hxs := Lib.hid hxs
  have Hx2 := Lib.hid hx2
  clear hx0 hx1 hxs hx2
  have cw : ∀ y : Nat, y < 65536 → IntKind.u16.wrap (y : Int) = (y : Int) := fun y hy => by rw [IntKind.wrap_u16]; omega
  have cx0 := cw x0 kx0
  have cx1 := cw x1 kx1
  have cx2 := cw x2 kx2
  clear cw
  have t1 : decide ((xs : Int) < 8) = false := by simp; omega
  have t2 : decide (n < xs) = false := by simp; omega
  have hZ : Bk (w.alloc (.cells #[.int .u16 0, .int .u16 0, .int .u16 0, .slice none 0 0] 57)) w.heap.size 57 [.int .u16 0, .int .u16 0, .int .u16 0, .slice none 0 0] := Bk.new w 57 #[.int .u16 0, .int .u16 0, .int .u16 0, .slice none 0 0]
  go_enter Try.func61, Try.ntmps61
  go_wp2_with fail
  refine (dgGetV _ n c l _ _ 4 2 xs _ (hr.alloc _) rfl rfl Hxs.out (by omega) (by omega) (by omega)).mono ?_
  rintro e w1 ⟨rfl, rfl⟩
  go_wp2
  refine wp_relE 15 35 [0, 2, 3, 5, 6, 8, 10, 11] rfl (by kernel_rfl) (by kernel_rfl) (fun i => match i with | 0 => MP.eq (.slice A n c) | 1 => MP.eq (.int .u64 (x0 : Nat)) | 2 => MP.eq (.int .u16 (x0 : Nat)) | 3 => MP.eq (.slice A n c) | 4 => MP.eq (.int .u64 (x1 : Nat)) | 5 => MP.eq (.int .u16 (x1 : Nat)) | 6 => MP.eq (.slice A n c) | 7 => MP.eq (.int .u64 (x2 : Nat)) | 8 => MP.eq (.int .u16 (x2 : Nat)) | 9 => MP.fullN (w.heap.size + 1) [] | 10 => MP.eq (.slice A n c) | 11 => MP.eq (.int .i64 (xs : Int)) | 12 => MP.eq (.slice (cutA A c 8 1) (xs - 8) (c - 8)) | 13 => MP.rbN (w.heap.size + 1) ((l.drop 8).take (xs - 8)) | 14 => MP.dg x0 x1 x2 (w.heap.size + 1) ((l.drop 8).take (xs - 8)) | _ => MP.any) ?_ ?_
  · intro i hi o ho FA x hO hD
    match i, hi, ho, hO, hD with
    | 0, _, ho, hO, hD => 
      obtain rfl := Option.some.inj ho.symm
      clear ho
      have ev0 : FA.eval (.tmp 0) = .slice A n c := hO 0 (by kernel_rfl)
      have e0 : FA.tmps[0]?.getD undef = .slice A n c := by simpa [Act.eval] using ev0
      replace ev0 := Lib.hid ev0
      clear hO hD
      rw [if_pos (by decide)]
      refine ⟨.slice A n c, .inl ⟨by simp [Region.wanted], fun w => ?_⟩, rfl⟩
      go_simp
    | 1, _, ho, hO, hD => 
      obtain rfl := Option.some.inj ho.symm
      clear ho
      have ev20 : FA.eval (.tmp 20) = .slice A n c := hD 0 20 (by kernel_rfl)
      have e20 : FA.tmps[20]?.getD undef = .slice A n c := by simpa [Act.eval] using ev20
      replace ev20 := Lib.hid ev20
      clear hO hD
      rw [if_neg (by decide)]
      intro K hK
      go_simp
      refine (dgGetV _ n c l _ _ 0 2 x0 _ ((hr.alloc _).plus_ _ _) rfl rfl Hx0.out (by omega) (by omega) (by omega)).mono ?_
      rintro e w1 ⟨rfl, rfl⟩
      exact hK.out _ _ (Ex.refl _) rfl
    | 2, _, ho, hO, hD => 
      obtain rfl := Option.some.inj ho.symm
      clear ho
      have ev21 : FA.eval (.tmp 21) = .int .u64 (x0 : Nat) := hD 1 21 (by kernel_rfl)
      have e21 : FA.tmps[21]?.getD undef = .int .u64 (x0 : Nat) := by simpa [Act.eval] using ev21
      replace ev21 := Lib.hid ev21
      clear hO hD
      rw [if_pos (by decide)]
      refine ⟨.int .u16 (x0 : Nat), .inl ⟨by simp [Region.wanted], fun w => ?_⟩, rfl⟩
      go_simp
    | 3, _, ho, hO, hD => 
      obtain rfl := Option.some.inj ho.symm
      clear ho
      have ev0 : FA.eval (.tmp 0) = .slice A n c := hO 0 (by kernel_rfl)
      have e0 : FA.tmps[0]?.getD undef = .slice A n c := by simpa [Act.eval] using ev0
      replace ev0 := Lib.hid ev0
      clear hO hD
      rw [if_pos (by decide)]
      refine ⟨.slice A n c, .inl ⟨by simp [Region.wanted], fun w => ?_⟩, rfl⟩
      go_simp
    | 4, _, ho, hO, hD => 
      obtain rfl := Option.some.inj ho.symm
      clear ho
      have ev23 : FA.eval (.tmp 23) = .slice A n c := hD 3 23 (by kernel_rfl)
      have e23 : FA.tmps[23]?.getD undef = .slice A n c := by simpa [Act.eval] using ev23
      replace ev23 := Lib.hid ev23
      clear hO hD
      rw [if_neg (by decide)]
      intro K hK
      go_simp
      refine (dgGetV _ n c l _ _ 2 2 x1 _ ((hr.alloc _).plus_ _ _) rfl rfl Hx1.out (by omega) (by omega) (by omega)).mono ?_
      rintro e w1 ⟨rfl, rfl⟩
      exact hK.out _ _ (Ex.refl _) rfl
    | 5, _, ho, hO, hD => 
      obtain rfl := Option.some.inj ho.symm
      clear ho
      have ev24 : FA.eval (.tmp 24) = .int .u64 (x1 : Nat) := hD 4 24 (by kernel_rfl)
      have e24 : FA.tmps[24]?.getD undef = .int .u64 (x1 : Nat) := by simpa [Act.eval] using ev24
      replace ev24 := Lib.hid ev24
      clear hO hD
      rw [if_pos (by decide)]
      refine ⟨.int .u16 (x1 : Nat), .inl ⟨by simp [Region.wanted], fun w => ?_⟩, rfl⟩
      go_simp
    | 6, _, ho, hO, hD => 
      obtain rfl := Option.some.inj ho.symm
      clear ho
      have ev0 : FA.eval (.tmp 0) = .slice A n c := hO 0 (by kernel_rfl)
      have e0 : FA.tmps[0]?.getD undef = .slice A n c := by simpa [Act.eval] using ev0
      replace ev0 := Lib.hid ev0
      clear hO hD
      rw [if_pos (by decide)]
      refine ⟨.slice A n c, .inl ⟨by simp [Region.wanted], fun w => ?_⟩, rfl⟩
      go_simp
    | 7, _, ho, hO, hD => 
      obtain rfl := Option.some.inj ho.symm
      clear ho
      have ev26 : FA.eval (.tmp 26) = .slice A n c := hD 6 26 (by kernel_rfl)
      have e26 : FA.tmps[26]?.getD undef = .slice A n c := by simpa [Act.eval] using ev26
      replace ev26 := Lib.hid ev26
      clear hO hD
      rw [if_neg (by decide)]
      intro K hK
      go_simp
      refine (dgGetV _ n c l _ _ 6 2 x2 _ ((hr.alloc _).plus_ _ _) rfl rfl Hx2.out (by omega) (by omega) (by omega)).mono ?_
      rintro e w1 ⟨rfl, rfl⟩
      exact hK.out _ _ (Ex.refl _) rfl
    | 8, _, ho, hO, hD => 
      obtain rfl := Option.some.inj ho.symm
      clear ho
      have ev27 : FA.eval (.tmp 27) = .int .u64 (x2 : Nat) := hD 7 27 (by kernel_rfl)
      have e27 : FA.tmps[27]?.getD undef = .int .u64 (x2 : Nat) := by simpa [Act.eval] using ev27
      replace ev27 := Lib.hid ev27
      clear hO hD
      rw [if_pos (by decide)]
      refine ⟨.int .u16 (x2 : Nat), .inl ⟨by simp [Region.wanted], fun w => ?_⟩, rfl⟩
      go_simp
    | 9, _, ho, hO, hD => 
      obtain rfl := Option.some.inj ho.symm
      clear ho
      clear hO hD
      rw [if_neg (by decide)]
      intro K hK
      go_simp
      refine hK.out _ _ (Ex.alloc _ _) ⟨_, _, rfl, ?_, ?_⟩
      · refine Rb.litW _ [] ?_ rfl (by decide) rfl
        simp [size_plus]
      · intro a ha
        injection ha with ha
        subst ha
        simp
    | 10, _, ho, hO, hD => 
      obtain rfl := Option.some.inj ho.symm
      clear ho
      have ev0 : FA.eval (.tmp 0) = .slice A n c := hO 0 (by kernel_rfl)
      have e0 : FA.tmps[0]?.getD undef = .slice A n c := by simpa [Act.eval] using ev0
      replace ev0 := Lib.hid ev0
      clear hO hD
      rw [if_pos (by decide)]
      refine ⟨.slice A n c, .inl ⟨by simp [Region.wanted], fun w => ?_⟩, rfl⟩
      go_simp
    | 11, _, ho, hO, hD => 
      obtain rfl := Option.some.inj ho.symm
      clear ho
      have ev4 : FA.eval (.tmp 4) = .int .i64 (xs : Int) := hO 4 (by kernel_rfl)
      have e4 : FA.tmps[4]?.getD undef = .int .i64 (xs : Int) := by simpa [Act.eval] using ev4
      replace ev4 := Lib.hid ev4
      clear hO hD
      rw [if_pos (by decide)]
      refine ⟨.int .i64 (xs : Int), .inl ⟨by simp [Region.wanted], fun w => ?_⟩, rfl⟩
      go_simp
    | 12, _, ho, hO, hD => 
      obtain rfl := Option.some.inj ho.symm
      clear ho
      have ev30 : FA.eval (.tmp 30) = .slice A n c := hD 10 30 (by kernel_rfl)
      have e30 : FA.tmps[30]?.getD undef = .slice A n c := by simpa [Act.eval] using ev30
      replace ev30 := Lib.hid ev30
      have ev31 : FA.eval (.tmp 31) = .int .i64 (xs : Int) := hD 11 31 (by kernel_rfl)
      have e31 : FA.tmps[31]?.getD undef = .int .i64 (xs : Int) := by simpa [Act.eval] using ev31
      replace ev31 := Lib.hid ev31
      clear hO hD
      rw [if_neg (by decide)]
      intro K hK
      have s1 : xs ≤ c := by omega
      have s2 : (xs : Int) ≤ (c : Int) := by omega
      have s3 : (8 : Int) ≤ (xs : Int) := by omega
      have s4 : 8 ≤ c := by omega
      go_simp
      exact hK.out _ _ (Ex.refl _) rfl
    | 13, _, ho, hO, hD => 
      obtain rfl := Option.some.inj ho.symm
      clear ho
      have f29 := hD 9 29 (by kernel_rfl)
      generalize eu29 : FA.eval (.tmp 29) = u29 at f29
      have e29 : FA.tmps[29]?.getD undef = u29 := by rw [← eu29]; simp [Act.eval]
      have ev29 := Lib.hid eu29
      clear eu29
      have ev32 : FA.eval (.tmp 32) = .slice (cutA A c 8 1) (xs - 8) (c - 8) := hD 12 32 (by kernel_rfl)
      have e32 : FA.tmps[32]?.getD undef = .slice (cutA A c 8 1) (xs - 8) (c - 8) := by simpa [Act.eval] using ev32
      replace ev32 := Lib.hid ev32
      clear hO hD
      rw [if_neg (by decide)]
      intro K hK
      obtain ⟨A1, n1, rfl, hr1, hA1⟩ := f29
      obtain rfl : n1 = 0 := hr1.1.symm
      refine wanted_if rfl ?_
      refine rel_appN bt (.tmp 29) (.tmp 32) (w.heap.size + 1) rfl (by simpa [Act.eval] using e29) hr1 hA1 (by simp [size_plus]) ev32.out ((((hr.cut (k := 8) (by omega)).take (k := xs - 8) (by omega)).alloc _).plus_ _ _) (by omega) ?_
      intro A2 n2 c2 w2 hex hr2 hA2
      exact hK.out _ _ hex ⟨_, _, _, rfl, hr2, hA2⟩
    | 14, _, ho, hO, hD => 
      obtain rfl := Option.some.inj ho.symm
      clear ho
      have ev22 : FA.eval (.tmp 22) = .int .u16 (x0 : Nat) := hD 2 22 (by kernel_rfl)
      have e22 : FA.tmps[22]?.getD undef = .int .u16 (x0 : Nat) := by simpa [Act.eval] using ev22
      replace ev22 := Lib.hid ev22
      have ev25 : FA.eval (.tmp 25) = .int .u16 (x1 : Nat) := hD 5 25 (by kernel_rfl)
      have e25 : FA.tmps[25]?.getD undef = .int .u16 (x1 : Nat) := by simpa [Act.eval] using ev25
      replace ev25 := Lib.hid ev25
      have ev28 : FA.eval (.tmp 28) = .int .u16 (x2 : Nat) := hD 8 28 (by kernel_rfl)
      have e28 : FA.tmps[28]?.getD undef = .int .u16 (x2 : Nat) := by simpa [Act.eval] using ev28
      replace ev28 := Lib.hid ev28
      have f33 := hD 13 33 (by kernel_rfl)
      generalize eu33 : FA.eval (.tmp 33) = u33 at f33
      have e33 : FA.tmps[33]?.getD undef = u33 := by rw [← eu33]; simp [Act.eval]
      have ev33 := Lib.hid eu33
      clear eu33
      clear hO hD
      rw [if_neg (by decide)]
      intro K hK
      obtain ⟨A1, n1, c1, rfl, hr1, hA1⟩ := f33
      go_simp
      exact hK.out _ _ (Ex.refl _) ⟨_, _, _, rfl, hr1, hA1⟩
    | (k + 15), hi, _, _, _ => exact absurd hi (by omega)
  intro vs x hp
  have p0 : vs 0 = .slice A n c := hp 0 (by omega)
  have p1 : vs 1 = .int .u64 (x0 : Nat) := hp 1 (by omega)
  have p2 : vs 2 = .int .u16 (x0 : Nat) := hp 2 (by omega)
  have p3 : vs 3 = .slice A n c := hp 3 (by omega)
  have p4 : vs 4 = .int .u64 (x1 : Nat) := hp 4 (by omega)
  have p5 : vs 5 = .int .u16 (x1 : Nat) := hp 5 (by omega)
  have p6 : vs 6 = .slice A n c := hp 6 (by omega)
  have p7 : vs 7 = .int .u64 (x2 : Nat) := hp 7 (by omega)
  have p8 : vs 8 = .int .u16 (x2 : Nat) := hp 8 (by omega)
  have p9 := hp 9 (by omega)
  have p10 : vs 10 = .slice A n c := hp 10 (by omega)
  have p11 : vs 11 = .int .i64 (xs : Int) := hp 11 (by omega)
  have p12 : vs 12 = .slice (cutA A c 8 1) (xs - 8) (c - 8) := hp 12 (by omega)
  have p13 := hp 13 (by omega)
  have p14 := hp 14 (by omega)
  clear hp
  simp only [List.take_succ_cons, List.take_zero, List.drop_succ_cons, List.drop_zero, putAll, Nat.zero_add, Nat.reduceAdd, Act.put, List.setIfInBounds_toArray, List.set_cons_zero, List.set_cons_succ, p0, p1, p2, p3, p4, p5, p6, p7, p8, p10, p11, p12]
  clear p0 p1 p2 p3 p4 p5 p6 p7 p8 p10 p11 p12
  generalize vs 9 = y9 at *
  generalize vs 13 = y13 at *
  generalize vs 14 = y14 at *
  clear vs
  obtain ⟨A1, n1, c1, rfl, hr1, hA1⟩ := p14
  go_wp2_with (refine at_op (.store 57 (.tmp 2) (.tmp 34)) rfl ?_; refine wpList_stA (t := 57) 57 (.tmp 2) (.tmp 34) rfl rfl [.int .u16 (x0 : Nat), .int .u16 (x1 : Nat), .int .u16 (x2 : Nat), .slice A1 n1 c1] [.int .u16 0, .int .u16 0, .int .u16 0, .slice none 0 0] rfl (by simp [Value.oneCell']) rfl rfl (hZ.later (below_plus _ _ _)) (szDgR _ rfl) ?_; intro w2 hb2 hg2)
  refine NoPanic.normal ?_
  go_wp2
  refine bodyPost_agg2 Try.results61 rfl rfl hb2.range Try.underlying57 rfl (szDgR _ rfl) rfl (RetDgF.mk ?_ ?_ (below_grown (belowP ((Below.refl _ _).alloc (Nat.le_refl _) _) _ _) hg2 (Nat.le_refl _)))
  · exact hr1.grownN hA1 hg2 (by omega)
  · intro a ha
    have := hA1 a ha
    omega
end Go.Proofs.Ytfmkndemkpecpaa

/- Contracts of a datagram's Right, Bytes. -/
namespace Go.Proofs.Ytfmkndemkpecpaa
open Go.RowKit
set_option linter.unusedVariables false
set_option linter.unusedSimpArgs false
attribute [local go_sem ↓] sliced_cut

attribute [local go_sem] cutA_zero

theorem RetV.eq_ {w w' : World} {v v' : Value} (hv : v' = v) (hb : Below w.heap.size w w') : RetV w v (.returned v') w' := by
  subst hv
  exact RetV.mk hb
theorem udpRight_yes (a b s : Int) (A : Option Addr) (n k : Nat) (w : World) (hn : n ≤ 65527) : Calls Try.prog 180 #[.agg #[.int .u16 a, .int .u16 b, .int .u16 s, .slice A n k]] w (RetV w (.bool true)) := by
  go_enter Try.func180, Try.ntmps180
  go_wp2
  go_ret
  exact RetV.eq_ (by simp; omega) ((Below.refl _ _).alloc (Nat.le_refl _) _)
set_option maxHeartbeats 2000000 in
theorem udpBytes_any (a b s : Int) (A : Option Addr) (n k : Nat) (l : List UInt8) (w : World) (ha : 0 ≤ a ∧ a ≤ 65535) (hb : 0 ≤ b ∧ b ≤ 65535) (hs : 0 ≤ s ∧ s ≤ 65535) (h : Rb w A n k l) (hn : n ≤ 65527) :
    Calls Try.prog 181 #[.agg #[.int .u16 a, .int .u16 b, .int .u16 s, .slice A n k]] w (RetB w (dig a.toNat 2 ++ dig b.toNat 2 ++ dig (8 + n) 2 ++ dig s.toNat 2 ++ l)) := by
  obtain ⟨a0, a1⟩ := ha
  obtain ⟨b0, b1⟩ := hb
  obtain ⟨s0, s1⟩ := hs
  go_enter Try.func181, Try.ntmps181
  go_wp2_with fail
  refine (udpRight_yes _ _ _ _ _ _ _ hn).mono ?_
  rintro e w1 ⟨bs0, m0, rfl, rfl⟩
  go_wp2_with fail
  refine (put_int _ _ _ [] a 2 _ Rb.nil_ (by omega) a0 (by omega) (by omega) (by omega)).mono ?_
  rintro e w1 ⟨A1, n1, k1, bs1, m1, rfl, rfl, ho1⟩
  have l1 : n1 ≤ 100 := by have := ho1.len; simp [dig_length] at this; omega
  go_wp2_with fail
  refine (put_int _ _ _ _ b 2 _ ho1.rb (by omega) b0 (by omega) (by omega) (by omega)).mono ?_
  rintro e w2 ⟨A2, n2, k2, bs2, m2, rfl, rfl, ho2⟩
  have l2 : n2 ≤ 100 := by have := ho2.len; simp [dig_length] at this; omega
  go_wp2_with fail
  refine (put_int _ _ _ _ (8 + (n : Int)) 2 _ ho2.rb (by omega) (by omega) (by omega) (by omega) (by omega)).mono ?_
  rintro e w3 ⟨A3, n3, k3, bs3, m3, rfl, rfl, ho3⟩
  have l3 : n3 ≤ 100 := by have := ho3.len; simp [dig_length] at this; omega
  go_wp2_with fail
  refine (put_int _ _ _ _ s 2 _ ho3.rb (by omega) s0 (by omega) (by omega) (by omega)).mono ?_
  rintro e w4 ⟨A4, n4, k4, bs4, m4, rfl, rfl, ho4⟩
  have l4 : n4 ≤ 100 := by have := ho4.len; simp [dig_length] at this; omega
  go_wp2_with (at_builtin; refine wpList_appP _ bt rfl (.tmp 28) (.tmp 30) rfl (by exact below_plus _ bs4 m4) rfl ho4 rfl (by exact (((((h.alloc _).plus_ _ _).plus_ _ _).plus_ _ _).plus_ _ _).plus_ _ _) (by omega) ?_; intro A5 n5 k5 bs5 m5 ho5 _)
  go_ret
  refine RetB.mk ?_ (belowP (belowP (belowP (belowP (belowP ((Below.refl _ _).alloc (Nat.le_refl _) _) _ _) _ _) _ _) _ _) _ _)
  have e8 : (8 + (n : Int)).toNat = 8 + n := by omega
  rw [e8] at ho5
  simpa using ho5.mono (base' := w.heap.size) (by simp [size_plus]; omega)
end Go.Proofs.Ytfmkndemkpecpaa

