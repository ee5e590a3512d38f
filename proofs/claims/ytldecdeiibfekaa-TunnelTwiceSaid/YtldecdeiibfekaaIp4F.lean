/- ip4.header of any bytes. -/
import Derived.Test.YtldecdeiibfekaaIp4D
namespace Go.Proofs.Ytldecdeiibfekaa
open Go.RowKit
set_option linter.unusedVariables false
set_option linter.unusedSimpArgs false
attribute [local go_sem ↓] sliced_cut
attribute [local go_sem] cutA_zero

set_option maxHeartbeats 4000000 in
set_option maxRecDepth 100000 in
theorem hdr4_short (A : Option Addr) (n c : Nat) (l : List UInt8) (w : World) (h : Rb w A n c l) (hm9 : n ≤ 1000000) (hn : n < 20) : Calls Try.prog 119 #[.slice A n c] w (RetV w (.tuple #[.agg (h4C 0 0 0 false false 0 0 0 0 false 0 0 false 0 0 none 0 0).toArray, .int .i64 0, .int .i64 20])) := by
  obtain ⟨du, u1, u2⟩ := rowH4
  have d20 : decide ((n : Int) < 20) = true := by simp only [decide_eq_true_eq]; omega
  have b2 : Bk (w.alloc (.cells #[.int .u8 0, .int .i64 0, .int .u16 0, .bool false, .bool false, .int .i64 0, .int .u8 0, .int .u8 0, .int .u16 0, .bool false, .int .u64 0, .int .u64 0, .bool false, .int .u64 0, .int .u64 0, .slice none 0 0] 77)) w.heap.size 77 (h4C 0 0 0 false false 0 0 0 0 false 0 0 false 0 0 none 0 0) := Bk.new w 77 #[.int .u8 0, .int .i64 0, .int .u16 0, .bool false, .bool false, .int .i64 0, .int .u8 0, .int .u8 0, .int .u16 0, .bool false, .int .u64 0, .int .u64 0, .bool false, .int .u64 0, .int .u64 0, .slice none 0 0]
  have be : Below w.heap.size w (w.alloc (.cells #[.int .u8 0, .int .i64 0, .int .u16 0, .bool false, .bool false, .int .i64 0, .int .u8 0, .int .u8 0, .int .u16 0, .bool false, .int .u64 0, .int .u64 0, .bool false, .int .u64 0, .int .u64 0, .slice none 0 0] 77)) := Below.allocS (Below.refl _ _) _
  go_enter Try.func119, Try.ntmps119
  go_wp2_with (refine at_op (.store 77 (.tmp 2) (.tmp 13)) rfl ?_; refine wpList_stA (t := 77) 77 (.tmp 2) (.tmp 13) rfl rfl (h4C 0 0 0 false false 0 0 0 0 false 0 0 false 0 0 none 0 0) (h4C 0 0 0 false false 0 0 0 0 false 0 0 false 0 0 none 0 0) rfl (h4C_one _ _ _ _ _ _ _ _ _ _ _ _ _ _ _ _ _ _) rfl rfl b2 (szH4 _ _ _ _ _ _ _ _ _ _ _ _ _ _ _ _ _ _) ?_; intro W9 h9 g9)
  refine bodyPost_agg3 Try.results119 rfl rfl rfl h9.range u1 u2 (szH4 _ _ _ _ _ _ _ _ _ _ _ _ _ _ _ _ _ _) rfl (RetV.mk ?_)
  exact below_grown be g9 (by omega)

theorem and_bit (x i : Nat) : x &&& 2 ^ i = x / 2 ^ i % 2 * 2 ^ i := by
  have hb : x.testBit i = decide (x / 2 ^ i % 2 = 1) := Nat.testBit_eq_decide_div_mod_eq
  apply Nat.eq_of_testBit_eq
  intro j
  rw [Nat.testBit_and, Nat.testBit_two_pow]
  by_cases h1 : x / 2 ^ i % 2 = 1
  · rw [h1, Nat.one_mul, Nat.testBit_two_pow]
    by_cases hj : i = j
    · subst hj
      rw [hb]
      simp [h1]
    · simp [hj]
  · have h0 : x / 2 ^ i % 2 = 0 := by omega
    rw [h0, Nat.zero_mul, Nat.zero_testBit]
    by_cases hj : i = j
    · subst hj
      rw [hb]
      simp [h0]
    · simp [hj]
theorem and_2k (x i : Nat) (h : x < 65536) (hi : i < 16) : bits .and .u16 (x : Int) ((2 ^ i : Nat) : Int) = (((x / 2 ^ i % 2) * 2 ^ i : Nat) : Int) := by
  rw [u16_and_nat x (2 ^ i) h (Nat.lt_of_lt_of_le (Nat.pow_lt_pow_right (by decide) hi) (by decide)), and_bit]
theorem and15 (x : Nat) (h : x < 65536) : bits .and .u16 (x : Int) 32768 = ((x / 32768 % 2 * 32768 : Nat) : Int) := and_2k x 15 h (by decide)
theorem and14 (x : Nat) (h : x < 65536) : bits .and .u16 (x : Int) 16384 = ((x / 16384 % 2 * 16384 : Nat) : Int) := and_2k x 14 h (by decide)
theorem and13 (x : Nat) (h : x < 65536) : bits .and .u16 (x : Int) 8192 = ((x / 8192 % 2 * 8192 : Nat) : Int) := and_2k x 13 h (by decide)
theorem and8191 (x : Nat) (h : x < 65536) : bits .and .u16 (x : Int) 8191 = ((x % 8192 : Nat) : Int) := by
  have := u16_and_nat x 8191 h (by decide)
  rw [show (8191 : Nat) = 2 ^ 13 - 1 from rfl, Nat.and_two_pow_sub_one_eq_mod] at this
  exact this
set_option maxHeartbeats 4000000 in
set_option maxRecDepth 100000 in
theorem hdr4_f1 (A : Option Addr) (n c : Nat) (l : List UInt8) (w : World) (h : Rb w A n c l) (hm9 : n ≤ 1000000) (f ts ln id pl : Nat) (x0 : num ((l.drop 0).take 1) = f) (x1 : num ((l.drop 1).take 1) = ts) (x2 : num ((l.drop 2).take 2) = ln) (x3 : num ((l.drop 4).take 2) = id) (x4 : num ((l.drop 6).take 2) = pl) (hn : 20 ≤ n) (hb : f / 16 ≠ 4) : Calls Try.prog 119 #[.slice A n c] w (RetV w (.tuple #[.agg (h4C 0 0 0 false false 0 0 0 0 false 0 0 false 0 0 none 0 0).toArray, .int .i64 0, .int .i64 21])) := by
  obtain ⟨du, u1, u2⟩ := rowH4
  have hc := h.2.1
  have hl := h.1
  have h20n : (20 : Int) ≤ (n : Int) := by omega
  have h20c : (20 : Int) ≤ (c : Int) := by omega
  have d20 : decide ((n : Int) < 20) = false := by simp only [decide_eq_false_iff_not]; omega
  have ht20 : Rb w A 20 c (l.take 20) := h.take (by omega)
  have hf8 : f < 256 := by rw [← x0]; exact num_lt' l 0 1 256 (by decide)
  have hpl : pl < 65536 := by rw [← x4]; exact num_lt' l 6 2 65536 (by decide)
  have hln : ln < 65536 := by rw [← x2]; exact num_lt' l 2 2 65536 (by decide)
  replace x0 : Hid (num (((l.take 20).drop 0).take 1) = f) := Lib.hid (by rw [num_in l 20 0 1 (by decide)]; exact x0)
  replace x1 : Hid (num (((l.take 20).drop 1).take 1) = ts) := Lib.hid (by rw [num_in l 20 1 1 (by decide)]; exact x1)
  replace x2 : Hid (num (((l.take 20).drop 2).take 2) = ln) := Lib.hid (by rw [num_in l 20 2 2 (by decide)]; exact x2)
  replace x3 : Hid (num (((l.take 20).drop 4).take 2) = id) := Lib.hid (by rw [num_in l 20 4 2 (by decide)]; exact x3)
  replace x4 : Hid (num (((l.take 20).drop 6).take 2) = pl) := Lib.hid (by rw [num_in l 20 6 2 (by decide)]; exact x4)
  have hB : (l.take 20).length = 20 := by rw [List.length_take]; omega
  have HR := Lib.hid (fun W (h : Rb W A 20 c (l.take 20)) => readK A 20 c (l.take 20) W h (by decide))
  generalize l.take 20 = B at *
  have hB1 : B.length ≤ 20 := by omega
  have hB2 : 20 ≤ B.length := by omega
  clear hB
  obtain ⟨m, hm⟩ : ∃ m : Nat, m = f % 16 := ⟨_, rfl⟩
  have e1 := u8_and15 f hf8
  rw [← hm] at e1
  obtain ⟨sz, hsz⟩ : ∃ s : Nat, s = 4 * m := ⟨_, rfl⟩
  have e2 : IntKind.i64.wrap (4 * (m : Int)) = (sz : Int) := by rw [IntWalk.i64_in _ (by omega)]; omega
  have e3 : IntKind.i64.wrap (m : Int) = (m : Int) := IntWalk.i64_in _ (by omega)
  have e4 : IntKind.i64.wrap (ln : Int) = (ln : Int) := IntWalk.i64_in _ (by omega)
  have hb1n : ((f : Int) / 16 != 4) = true := by rw [bne_iff_ne]; omega
  clear hm hsz
  have b2 : Bk (w.alloc (.cells #[.int .u8 0, .int .i64 0, .int .u16 0, .bool false, .bool false, .int .i64 0, .int .u8 0, .int .u8 0, .int .u16 0, .bool false, .int .u64 0, .int .u64 0, .bool false, .int .u64 0, .int .u64 0, .slice none 0 0] 77)) w.heap.size 77 (h4C 0 0 0 false false 0 0 0 0 false 0 0 false 0 0 none 0 0) := Bk.new w 77 #[.int .u8 0, .int .i64 0, .int .u16 0, .bool false, .bool false, .int .i64 0, .int .u8 0, .int .u8 0, .int .u16 0, .bool false, .int .u64 0, .int .u64 0, .bool false, .int .u64 0, .int .u64 0, .slice none 0 0]
  have be : Below w.heap.size w (w.alloc (.cells #[.int .u8 0, .int .i64 0, .int .u16 0, .bool false, .bool false, .int .i64 0, .int .u8 0, .int .u8 0, .int .u16 0, .bool false, .int .u64 0, .int .u64 0, .bool false, .int .u64 0, .int .u64 0, .slice none 0 0] 77)) := Below.allocS (Below.refl _ _) _
  go_enter Try.func119, Try.ntmps119
  go_wp2_with fail
  refine (HR.out _ (ht20.alloc _)).mono ?_
  rintro e w1 ⟨r, bs1, d1, rfl, rfl, hr1, hR⟩
  replace b2 := b2.later (below_plus _ bs1 d1)
  replace be := belowP be bs1 d1
  have hr2 : w.heap.size < r := by simp at hr1; omega
  generalize plus (w.alloc (.cells #[.int .u8 0, .int .i64 0, .int .u16 0, .bool false, .bool false, .int .i64 0, .int .u8 0, .int .u8 0, .int .u16 0, .bool false, .int .u64 0, .int .u64 0, .bool false, .int .u64 0, .int .u64 0, .slice none 0 0] 77)) bs1 d1 = W0 at *
  clear hr1
  go_wp2_with fail
  refine (byteG W0 r B 0 f hR (by omega) (by omega) x0.out).mono ?_
  clear x0
  rintro e W1 ⟨rfl, hR1, hg⟩
  replace b2 := b2.grown hg (by simp; omega)
  replace be := below_grown be hg (by omega)
  clear hR hg
  have hR := hR1
  clear hR1
  go_wp2_with fail
  refine (byteG W1 r B 1 ts hR (by omega) (by omega) x1.out).mono ?_
  clear x1
  rintro e W2 ⟨rfl, hR1, hg⟩
  replace b2 := b2.grown hg (by simp; omega)
  replace be := below_grown be hg (by omega)
  clear hR hg
  have hR := hR1
  clear hR1
  go_wp2_with fail
  refine (wordG W2 r B 2 ln hR (by omega) (by omega) x2.out).mono ?_
  clear x2
  rintro e W3 ⟨rfl, hR1, hg⟩
  replace b2 := b2.grown hg (by simp; omega)
  replace be := below_grown be hg (by omega)
  clear hR hg
  have hR := hR1
  clear hR1
  go_wp2_with fail
  refine (wordG W3 r B 4 id hR (by omega) (by omega) x3.out).mono ?_
  clear x3
  rintro e W4 ⟨rfl, hR1, hg⟩
  replace b2 := b2.grown hg (by simp; omega)
  replace be := below_grown be hg (by omega)
  clear hR hg
  have hR := hR1
  clear hR1
  have zr := hR.lt
  go_wp2_with fail
  have b8 : Bk (W4.alloc (.cells #[.int .u8 (ts : Int), .int .i64 (ln : Int), .int .u16 (id : Int), .bool false, .bool false, .int .i64 0, .int .u8 0, .int .u8 0, .int .u16 0, .bool false, .int .u64 0, .int .u64 0, .bool false, .int .u64 0, .int .u64 0, .slice none 0 0] 77)) W4.heap.size 77 [.int .u8 (ts : Int), .int .i64 (ln : Int), .int .u16 (id : Int), .bool false, .bool false, .int .i64 0, .int .u8 0, .int .u8 0, .int .u16 0, .bool false, .int .u64 0, .int .u64 0, .bool false, .int .u64 0, .int .u64 0, .slice none 0 0] := Bk.new W4 77 #[.int .u8 (ts : Int), .int .i64 (ln : Int), .int .u16 (id : Int), .bool false, .bool false, .int .i64 0, .int .u8 0, .int .u8 0, .int .u16 0, .bool false, .int .u64 0, .int .u64 0, .bool false, .int .u64 0, .int .u64 0, .slice none 0 0]
  replace b2 := b2.alloc (.cells #[.int .u8 (ts : Int), .int .i64 (ln : Int), .int .u16 (id : Int), .bool false, .bool false, .int .i64 0, .int .u8 0, .int .u8 0, .int .u16 0, .bool false, .int .u64 0, .int .u64 0, .bool false, .int .u64 0, .int .u64 0, .slice none 0 0] 77)
  replace be := Below.allocS be (.cells #[.int .u8 (ts : Int), .int .i64 (ln : Int), .int .u16 (id : Int), .bool false, .bool false, .int .i64 0, .int .u8 0, .int .u8 0, .int .u16 0, .bool false, .int .u64 0, .int .u64 0, .bool false, .int .u64 0, .int .u64 0, .slice none 0 0] 77)
  replace hR := hR.later ((Below.refl _ _).alloc (Nat.le_refl _) (.cells #[.int .u8 (ts : Int), .int .i64 (ln : Int), .int .u16 (id : Int), .bool false, .bool false, .int .i64 0, .int .u8 0, .int .u8 0, .int .u16 0, .bool false, .int .u64 0, .int .u64 0, .bool false, .int .u64 0, .int .u64 0, .slice none 0 0] 77))
  have zb := be.size
  generalize W4.alloc (.cells #[.int .u8 (ts : Int), .int .i64 (ln : Int), .int .u16 (id : Int), .bool false, .bool false, .int .i64 0, .int .u8 0, .int .u8 0, .int .u16 0, .bool false, .int .u64 0, .int .u64 0, .bool false, .int .u64 0, .int .u64 0, .slice none 0 0] 77) = V0 at *
  have zg : w.heap.size < W4.heap.size := by omega
  generalize W4.heap.size = g8 at *
  refine (wordG V0 r B 6 pl hR (by omega) (by omega) x4.out).mono ?_
  clear x4
  rintro e W5 ⟨rfl, hR1, hg⟩
  replace b2 := b2.grown hg (by simp; omega)
  replace b8 := b8.grown hg (by simp; omega)
  replace be := below_grown be hg (by omega)
  clear hR hg
  have hR := hR1
  clear hR1
  have y1 : W5.cell? ⟨g8, 1, none⟩ = some (.int .i64 (ln : Int)) := b8.cell 1
  have z8 := b8.lt
  clear zb
  go_wp2_with (refine at_op (.store 77 (.tmp 2) (.tmp 51)) rfl ?_; refine wpList_stA (t := 77) 77 (.tmp 2) (.tmp 51) rfl rfl (h4C 0 0 0 false false 0 0 0 0 false 0 0 false 0 0 none 0 0) (h4C 0 0 0 false false 0 0 0 0 false 0 0 false 0 0 none 0 0) rfl (h4C_one _ _ _ _ _ _ _ _ _ _ _ _ _ _ _ _ _ _) rfl rfl b2 (szH4 _ _ _ _ _ _ _ _ _ _ _ _ _ _ _ _ _ _) ?_; intro W9 h9 g9)
  refine bodyPost_agg3 Try.results119 rfl rfl rfl h9.range u1 u2 (szH4 _ _ _ _ _ _ _ _ _ _ _ _ _ _ _ _ _ _) rfl (RetV.mk ?_)
  exact below_grown be g9 (by omega)
set_option maxHeartbeats 4000000 in
set_option maxRecDepth 100000 in
theorem hdr4_f2 (A : Option Addr) (n c : Nat) (l : List UInt8) (w : World) (h : Rb w A n c l) (hm9 : n ≤ 1000000) (f ts ln id pl : Nat) (x0 : num ((l.drop 0).take 1) = f) (x1 : num ((l.drop 1).take 1) = ts) (x2 : num ((l.drop 2).take 2) = ln) (x3 : num ((l.drop 4).take 2) = id) (x4 : num ((l.drop 6).take 2) = pl) (hn : 20 ≤ n) (hb : f / 16 = 4) (hs : 4 * (f % 16) < 20) : Calls Try.prog 119 #[.slice A n c] w (RetV w (.tuple #[.agg (h4C 0 0 0 false false 0 0 0 0 false 0 0 false 0 0 none 0 0).toArray, .int .i64 0, .int .i64 21])) := by
  obtain ⟨du, u1, u2⟩ := rowH4
  have hc := h.2.1
  have hl := h.1
  have h20n : (20 : Int) ≤ (n : Int) := by omega
  have h20c : (20 : Int) ≤ (c : Int) := by omega
  have d20 : decide ((n : Int) < 20) = false := by simp only [decide_eq_false_iff_not]; omega
  have ht20 : Rb w A 20 c (l.take 20) := h.take (by omega)
  have hf8 : f < 256 := by rw [← x0]; exact num_lt' l 0 1 256 (by decide)
  have hpl : pl < 65536 := by rw [← x4]; exact num_lt' l 6 2 65536 (by decide)
  have hln : ln < 65536 := by rw [← x2]; exact num_lt' l 2 2 65536 (by decide)
  replace x0 : Hid (num (((l.take 20).drop 0).take 1) = f) := Lib.hid (by rw [num_in l 20 0 1 (by decide)]; exact x0)
  replace x1 : Hid (num (((l.take 20).drop 1).take 1) = ts) := Lib.hid (by rw [num_in l 20 1 1 (by decide)]; exact x1)
  replace x2 : Hid (num (((l.take 20).drop 2).take 2) = ln) := Lib.hid (by rw [num_in l 20 2 2 (by decide)]; exact x2)
  replace x3 : Hid (num (((l.take 20).drop 4).take 2) = id) := Lib.hid (by rw [num_in l 20 4 2 (by decide)]; exact x3)
  replace x4 : Hid (num (((l.take 20).drop 6).take 2) = pl) := Lib.hid (by rw [num_in l 20 6 2 (by decide)]; exact x4)
  have hB : (l.take 20).length = 20 := by rw [List.length_take]; omega
  have HR := Lib.hid (fun W (h : Rb W A 20 c (l.take 20)) => readK A 20 c (l.take 20) W h (by decide))
  generalize l.take 20 = B at *
  have hB1 : B.length ≤ 20 := by omega
  have hB2 : 20 ≤ B.length := by omega
  clear hB
  obtain ⟨m, hm⟩ : ∃ m : Nat, m = f % 16 := ⟨_, rfl⟩
  have e1 := u8_and15 f hf8
  rw [← hm] at e1
  obtain ⟨sz, hsz⟩ : ∃ s : Nat, s = 4 * m := ⟨_, rfl⟩
  have e2 : IntKind.i64.wrap (4 * (m : Int)) = (sz : Int) := by rw [IntWalk.i64_in _ (by omega)]; omega
  have e3 : IntKind.i64.wrap (m : Int) = (m : Int) := IntWalk.i64_in _ (by omega)
  have e4 : IntKind.i64.wrap (ln : Int) = (ln : Int) := IntWalk.i64_in _ (by omega)
  have hb1 : (f : Int) / 16 = 4 := by omega
  have hb1n : ((f : Int) / 16 != 4) = false := by rw [hb1]; rfl
  have qd0 : decide ((sz : Int) < 20) = true := by simp only [decide_eq_true_eq]; omega
  have qd1 : decide (sz < 20) = true := by simp only [decide_eq_true_eq]; omega
  clear hb1
  clear hm hsz
  have b2 : Bk (w.alloc (.cells #[.int .u8 0, .int .i64 0, .int .u16 0, .bool false, .bool false, .int .i64 0, .int .u8 0, .int .u8 0, .int .u16 0, .bool false, .int .u64 0, .int .u64 0, .bool false, .int .u64 0, .int .u64 0, .slice none 0 0] 77)) w.heap.size 77 (h4C 0 0 0 false false 0 0 0 0 false 0 0 false 0 0 none 0 0) := Bk.new w 77 #[.int .u8 0, .int .i64 0, .int .u16 0, .bool false, .bool false, .int .i64 0, .int .u8 0, .int .u8 0, .int .u16 0, .bool false, .int .u64 0, .int .u64 0, .bool false, .int .u64 0, .int .u64 0, .slice none 0 0]
  have be : Below w.heap.size w (w.alloc (.cells #[.int .u8 0, .int .i64 0, .int .u16 0, .bool false, .bool false, .int .i64 0, .int .u8 0, .int .u8 0, .int .u16 0, .bool false, .int .u64 0, .int .u64 0, .bool false, .int .u64 0, .int .u64 0, .slice none 0 0] 77)) := Below.allocS (Below.refl _ _) _
  go_enter Try.func119, Try.ntmps119
  go_wp2_with fail
  refine (HR.out _ (ht20.alloc _)).mono ?_
  rintro e w1 ⟨r, bs1, d1, rfl, rfl, hr1, hR⟩
  replace b2 := b2.later (below_plus _ bs1 d1)
  replace be := belowP be bs1 d1
  have hr2 : w.heap.size < r := by simp at hr1; omega
  generalize plus (w.alloc (.cells #[.int .u8 0, .int .i64 0, .int .u16 0, .bool false, .bool false, .int .i64 0, .int .u8 0, .int .u8 0, .int .u16 0, .bool false, .int .u64 0, .int .u64 0, .bool false, .int .u64 0, .int .u64 0, .slice none 0 0] 77)) bs1 d1 = W0 at *
  clear hr1
  go_wp2_with fail
  refine (byteG W0 r B 0 f hR (by omega) (by omega) x0.out).mono ?_
  clear x0
  rintro e W1 ⟨rfl, hR1, hg⟩
  replace b2 := b2.grown hg (by simp; omega)
  replace be := below_grown be hg (by omega)
  clear hR hg
  have hR := hR1
  clear hR1
  go_wp2_with fail
  refine (byteG W1 r B 1 ts hR (by omega) (by omega) x1.out).mono ?_
  clear x1
  rintro e W2 ⟨rfl, hR1, hg⟩
  replace b2 := b2.grown hg (by simp; omega)
  replace be := below_grown be hg (by omega)
  clear hR hg
  have hR := hR1
  clear hR1
  go_wp2_with fail
  refine (wordG W2 r B 2 ln hR (by omega) (by omega) x2.out).mono ?_
  clear x2
  rintro e W3 ⟨rfl, hR1, hg⟩
  replace b2 := b2.grown hg (by simp; omega)
  replace be := below_grown be hg (by omega)
  clear hR hg
  have hR := hR1
  clear hR1
  go_wp2_with fail
  refine (wordG W3 r B 4 id hR (by omega) (by omega) x3.out).mono ?_
  clear x3
  rintro e W4 ⟨rfl, hR1, hg⟩
  replace b2 := b2.grown hg (by simp; omega)
  replace be := below_grown be hg (by omega)
  clear hR hg
  have hR := hR1
  clear hR1
  have zr := hR.lt
  go_wp2_with fail
  have b8 : Bk (W4.alloc (.cells #[.int .u8 (ts : Int), .int .i64 (ln : Int), .int .u16 (id : Int), .bool false, .bool false, .int .i64 0, .int .u8 0, .int .u8 0, .int .u16 0, .bool false, .int .u64 0, .int .u64 0, .bool false, .int .u64 0, .int .u64 0, .slice none 0 0] 77)) W4.heap.size 77 [.int .u8 (ts : Int), .int .i64 (ln : Int), .int .u16 (id : Int), .bool false, .bool false, .int .i64 0, .int .u8 0, .int .u8 0, .int .u16 0, .bool false, .int .u64 0, .int .u64 0, .bool false, .int .u64 0, .int .u64 0, .slice none 0 0] := Bk.new W4 77 #[.int .u8 (ts : Int), .int .i64 (ln : Int), .int .u16 (id : Int), .bool false, .bool false, .int .i64 0, .int .u8 0, .int .u8 0, .int .u16 0, .bool false, .int .u64 0, .int .u64 0, .bool false, .int .u64 0, .int .u64 0, .slice none 0 0]
  replace b2 := b2.alloc (.cells #[.int .u8 (ts : Int), .int .i64 (ln : Int), .int .u16 (id : Int), .bool false, .bool false, .int .i64 0, .int .u8 0, .int .u8 0, .int .u16 0, .bool false, .int .u64 0, .int .u64 0, .bool false, .int .u64 0, .int .u64 0, .slice none 0 0] 77)
  replace be := Below.allocS be (.cells #[.int .u8 (ts : Int), .int .i64 (ln : Int), .int .u16 (id : Int), .bool false, .bool false, .int .i64 0, .int .u8 0, .int .u8 0, .int .u16 0, .bool false, .int .u64 0, .int .u64 0, .bool false, .int .u64 0, .int .u64 0, .slice none 0 0] 77)
  replace hR := hR.later ((Below.refl _ _).alloc (Nat.le_refl _) (.cells #[.int .u8 (ts : Int), .int .i64 (ln : Int), .int .u16 (id : Int), .bool false, .bool false, .int .i64 0, .int .u8 0, .int .u8 0, .int .u16 0, .bool false, .int .u64 0, .int .u64 0, .bool false, .int .u64 0, .int .u64 0, .slice none 0 0] 77))
  have zb := be.size
  generalize W4.alloc (.cells #[.int .u8 (ts : Int), .int .i64 (ln : Int), .int .u16 (id : Int), .bool false, .bool false, .int .i64 0, .int .u8 0, .int .u8 0, .int .u16 0, .bool false, .int .u64 0, .int .u64 0, .bool false, .int .u64 0, .int .u64 0, .slice none 0 0] 77) = V0 at *
  have zg : w.heap.size < W4.heap.size := by omega
  generalize W4.heap.size = g8 at *
  refine (wordG V0 r B 6 pl hR (by omega) (by omega) x4.out).mono ?_
  clear x4
  rintro e W5 ⟨rfl, hR1, hg⟩
  replace b2 := b2.grown hg (by simp; omega)
  replace b8 := b8.grown hg (by simp; omega)
  replace be := below_grown be hg (by omega)
  clear hR hg
  have hR := hR1
  clear hR1
  have y1 : W5.cell? ⟨g8, 1, none⟩ = some (.int .i64 (ln : Int)) := b8.cell 1
  have z8 := b8.lt
  clear zb
  go_wp2_with (refine at_op (.store 77 (.tmp 2) (.tmp 51)) rfl ?_; refine wpList_stA (t := 77) 77 (.tmp 2) (.tmp 51) rfl rfl (h4C 0 0 0 false false 0 0 0 0 false 0 0 false 0 0 none 0 0) (h4C 0 0 0 false false 0 0 0 0 false 0 0 false 0 0 none 0 0) rfl (h4C_one _ _ _ _ _ _ _ _ _ _ _ _ _ _ _ _ _ _) rfl rfl b2 (szH4 _ _ _ _ _ _ _ _ _ _ _ _ _ _ _ _ _ _) ?_; intro W9 h9 g9)
  refine bodyPost_agg3 Try.results119 rfl rfl rfl h9.range u1 u2 (szH4 _ _ _ _ _ _ _ _ _ _ _ _ _ _ _ _ _ _) rfl (RetV.mk ?_)
  exact below_grown be g9 (by omega)
set_option maxHeartbeats 4000000 in
set_option maxRecDepth 100000 in
theorem hdr4_f3 (A : Option Addr) (n c : Nat) (l : List UInt8) (w : World) (h : Rb w A n c l) (hm9 : n ≤ 1000000) (f ts ln id pl : Nat) (x0 : num ((l.drop 0).take 1) = f) (x1 : num ((l.drop 1).take 1) = ts) (x2 : num ((l.drop 2).take 2) = ln) (x3 : num ((l.drop 4).take 2) = id) (x4 : num ((l.drop 6).take 2) = pl) (hn : 20 ≤ n) (hb : f / 16 = 4) (hs : 20 ≤ 4 * (f % 16)) (hp9 : 32768 ≤ pl) : Calls Try.prog 119 #[.slice A n c] w (RetV w (.tuple #[.agg (h4C 0 0 0 false false 0 0 0 0 false 0 0 false 0 0 none 0 0).toArray, .int .i64 0, .int .i64 21])) := by
  obtain ⟨du, u1, u2⟩ := rowH4
  have hc := h.2.1
  have hl := h.1
  have h20n : (20 : Int) ≤ (n : Int) := by omega
  have h20c : (20 : Int) ≤ (c : Int) := by omega
  have d20 : decide ((n : Int) < 20) = false := by simp only [decide_eq_false_iff_not]; omega
  have ht20 : Rb w A 20 c (l.take 20) := h.take (by omega)
  have hf8 : f < 256 := by rw [← x0]; exact num_lt' l 0 1 256 (by decide)
  have hpl : pl < 65536 := by rw [← x4]; exact num_lt' l 6 2 65536 (by decide)
  have hln : ln < 65536 := by rw [← x2]; exact num_lt' l 2 2 65536 (by decide)
  replace x0 : Hid (num (((l.take 20).drop 0).take 1) = f) := Lib.hid (by rw [num_in l 20 0 1 (by decide)]; exact x0)
  replace x1 : Hid (num (((l.take 20).drop 1).take 1) = ts) := Lib.hid (by rw [num_in l 20 1 1 (by decide)]; exact x1)
  replace x2 : Hid (num (((l.take 20).drop 2).take 2) = ln) := Lib.hid (by rw [num_in l 20 2 2 (by decide)]; exact x2)
  replace x3 : Hid (num (((l.take 20).drop 4).take 2) = id) := Lib.hid (by rw [num_in l 20 4 2 (by decide)]; exact x3)
  replace x4 : Hid (num (((l.take 20).drop 6).take 2) = pl) := Lib.hid (by rw [num_in l 20 6 2 (by decide)]; exact x4)
  have hB : (l.take 20).length = 20 := by rw [List.length_take]; omega
  have HR := Lib.hid (fun W (h : Rb W A 20 c (l.take 20)) => readK A 20 c (l.take 20) W h (by decide))
  generalize l.take 20 = B at *
  have hB1 : B.length ≤ 20 := by omega
  have hB2 : 20 ≤ B.length := by omega
  clear hB
  obtain ⟨m, hm⟩ : ∃ m : Nat, m = f % 16 := ⟨_, rfl⟩
  have e1 := u8_and15 f hf8
  rw [← hm] at e1
  obtain ⟨sz, hsz⟩ : ∃ s : Nat, s = 4 * m := ⟨_, rfl⟩
  have e2 : IntKind.i64.wrap (4 * (m : Int)) = (sz : Int) := by rw [IntWalk.i64_in _ (by omega)]; omega
  have e3 : IntKind.i64.wrap (m : Int) = (m : Int) := IntWalk.i64_in _ (by omega)
  have e4 : IntKind.i64.wrap (ln : Int) = (ln : Int) := IntWalk.i64_in _ (by omega)
  have hb1 : (f : Int) / 16 = 4 := by omega
  have hb1n : ((f : Int) / 16 != 4) = false := by rw [hb1]; rfl
  have qd2 : decide ((sz : Int) < 20) = false := by simp only [decide_eq_false_iff_not]; omega
  have qd3 : decide (sz < 20) = false := by simp only [decide_eq_false_iff_not]; omega
  have hp0 : pl / 32768 % 2 = 1 := by omega
  have hp : bits .and .u16 (pl : Int) 32768 = 32768 := by rw [and15 pl hpl, hp0]; rfl
  clear hp0
  clear hb1
  clear hm hsz
  have b2 : Bk (w.alloc (.cells #[.int .u8 0, .int .i64 0, .int .u16 0, .bool false, .bool false, .int .i64 0, .int .u8 0, .int .u8 0, .int .u16 0, .bool false, .int .u64 0, .int .u64 0, .bool false, .int .u64 0, .int .u64 0, .slice none 0 0] 77)) w.heap.size 77 (h4C 0 0 0 false false 0 0 0 0 false 0 0 false 0 0 none 0 0) := Bk.new w 77 #[.int .u8 0, .int .i64 0, .int .u16 0, .bool false, .bool false, .int .i64 0, .int .u8 0, .int .u8 0, .int .u16 0, .bool false, .int .u64 0, .int .u64 0, .bool false, .int .u64 0, .int .u64 0, .slice none 0 0]
  have be : Below w.heap.size w (w.alloc (.cells #[.int .u8 0, .int .i64 0, .int .u16 0, .bool false, .bool false, .int .i64 0, .int .u8 0, .int .u8 0, .int .u16 0, .bool false, .int .u64 0, .int .u64 0, .bool false, .int .u64 0, .int .u64 0, .slice none 0 0] 77)) := Below.allocS (Below.refl _ _) _
  go_enter Try.func119, Try.ntmps119
  go_wp2_with fail
  refine (HR.out _ (ht20.alloc _)).mono ?_
  rintro e w1 ⟨r, bs1, d1, rfl, rfl, hr1, hR⟩
  replace b2 := b2.later (below_plus _ bs1 d1)
  replace be := belowP be bs1 d1
  have hr2 : w.heap.size < r := by simp at hr1; omega
  generalize plus (w.alloc (.cells #[.int .u8 0, .int .i64 0, .int .u16 0, .bool false, .bool false, .int .i64 0, .int .u8 0, .int .u8 0, .int .u16 0, .bool false, .int .u64 0, .int .u64 0, .bool false, .int .u64 0, .int .u64 0, .slice none 0 0] 77)) bs1 d1 = W0 at *
  clear hr1
  go_wp2_with fail
  refine (byteG W0 r B 0 f hR (by omega) (by omega) x0.out).mono ?_
  clear x0
  rintro e W1 ⟨rfl, hR1, hg⟩
  replace b2 := b2.grown hg (by simp; omega)
  replace be := below_grown be hg (by omega)
  clear hR hg
  have hR := hR1
  clear hR1
  go_wp2_with fail
  refine (byteG W1 r B 1 ts hR (by omega) (by omega) x1.out).mono ?_
  clear x1
  rintro e W2 ⟨rfl, hR1, hg⟩
  replace b2 := b2.grown hg (by simp; omega)
  replace be := below_grown be hg (by omega)
  clear hR hg
  have hR := hR1
  clear hR1
  go_wp2_with fail
  refine (wordG W2 r B 2 ln hR (by omega) (by omega) x2.out).mono ?_
  clear x2
  rintro e W3 ⟨rfl, hR1, hg⟩
  replace b2 := b2.grown hg (by simp; omega)
  replace be := below_grown be hg (by omega)
  clear hR hg
  have hR := hR1
  clear hR1
  go_wp2_with fail
  refine (wordG W3 r B 4 id hR (by omega) (by omega) x3.out).mono ?_
  clear x3
  rintro e W4 ⟨rfl, hR1, hg⟩
  replace b2 := b2.grown hg (by simp; omega)
  replace be := below_grown be hg (by omega)
  clear hR hg
  have hR := hR1
  clear hR1
  have zr := hR.lt
  go_wp2_with fail
  have b8 : Bk (W4.alloc (.cells #[.int .u8 (ts : Int), .int .i64 (ln : Int), .int .u16 (id : Int), .bool false, .bool false, .int .i64 0, .int .u8 0, .int .u8 0, .int .u16 0, .bool false, .int .u64 0, .int .u64 0, .bool false, .int .u64 0, .int .u64 0, .slice none 0 0] 77)) W4.heap.size 77 [.int .u8 (ts : Int), .int .i64 (ln : Int), .int .u16 (id : Int), .bool false, .bool false, .int .i64 0, .int .u8 0, .int .u8 0, .int .u16 0, .bool false, .int .u64 0, .int .u64 0, .bool false, .int .u64 0, .int .u64 0, .slice none 0 0] := Bk.new W4 77 #[.int .u8 (ts : Int), .int .i64 (ln : Int), .int .u16 (id : Int), .bool false, .bool false, .int .i64 0, .int .u8 0, .int .u8 0, .int .u16 0, .bool false, .int .u64 0, .int .u64 0, .bool false, .int .u64 0, .int .u64 0, .slice none 0 0]
  replace b2 := b2.alloc (.cells #[.int .u8 (ts : Int), .int .i64 (ln : Int), .int .u16 (id : Int), .bool false, .bool false, .int .i64 0, .int .u8 0, .int .u8 0, .int .u16 0, .bool false, .int .u64 0, .int .u64 0, .bool false, .int .u64 0, .int .u64 0, .slice none 0 0] 77)
  replace be := Below.allocS be (.cells #[.int .u8 (ts : Int), .int .i64 (ln : Int), .int .u16 (id : Int), .bool false, .bool false, .int .i64 0, .int .u8 0, .int .u8 0, .int .u16 0, .bool false, .int .u64 0, .int .u64 0, .bool false, .int .u64 0, .int .u64 0, .slice none 0 0] 77)
  replace hR := hR.later ((Below.refl _ _).alloc (Nat.le_refl _) (.cells #[.int .u8 (ts : Int), .int .i64 (ln : Int), .int .u16 (id : Int), .bool false, .bool false, .int .i64 0, .int .u8 0, .int .u8 0, .int .u16 0, .bool false, .int .u64 0, .int .u64 0, .bool false, .int .u64 0, .int .u64 0, .slice none 0 0] 77))
  have zb := be.size
  generalize W4.alloc (.cells #[.int .u8 (ts : Int), .int .i64 (ln : Int), .int .u16 (id : Int), .bool false, .bool false, .int .i64 0, .int .u8 0, .int .u8 0, .int .u16 0, .bool false, .int .u64 0, .int .u64 0, .bool false, .int .u64 0, .int .u64 0, .slice none 0 0] 77) = V0 at *
  have zg : w.heap.size < W4.heap.size := by omega
  generalize W4.heap.size = g8 at *
  refine (wordG V0 r B 6 pl hR (by omega) (by omega) x4.out).mono ?_
  clear x4
  rintro e W5 ⟨rfl, hR1, hg⟩
  replace b2 := b2.grown hg (by simp; omega)
  replace b8 := b8.grown hg (by simp; omega)
  replace be := below_grown be hg (by omega)
  clear hR hg
  have hR := hR1
  clear hR1
  have y1 : W5.cell? ⟨g8, 1, none⟩ = some (.int .i64 (ln : Int)) := b8.cell 1
  have z8 := b8.lt
  clear zb
  go_wp2_with (refine at_op (.store 77 (.tmp 2) (.tmp 51)) rfl ?_; refine wpList_stA (t := 77) 77 (.tmp 2) (.tmp 51) rfl rfl (h4C 0 0 0 false false 0 0 0 0 false 0 0 false 0 0 none 0 0) (h4C 0 0 0 false false 0 0 0 0 false 0 0 false 0 0 none 0 0) rfl (h4C_one _ _ _ _ _ _ _ _ _ _ _ _ _ _ _ _ _ _) rfl rfl b2 (szH4 _ _ _ _ _ _ _ _ _ _ _ _ _ _ _ _ _ _) ?_; intro W9 h9 g9)
  refine bodyPost_agg3 Try.results119 rfl rfl rfl h9.range u1 u2 (szH4 _ _ _ _ _ _ _ _ _ _ _ _ _ _ _ _ _ _) rfl (RetV.mk ?_)
  exact below_grown be g9 (by omega)
set_option maxHeartbeats 4000000 in
set_option maxRecDepth 100000 in
theorem hdr4_f4 (A : Option Addr) (n c : Nat) (l : List UInt8) (w : World) (h : Rb w A n c l) (hm9 : n ≤ 1000000) (f ts ln id pl : Nat) (x0 : num ((l.drop 0).take 1) = f) (x1 : num ((l.drop 1).take 1) = ts) (x2 : num ((l.drop 2).take 2) = ln) (x3 : num ((l.drop 4).take 2) = id) (x4 : num ((l.drop 6).take 2) = pl) (hn : 20 ≤ n) (hb : f / 16 = 4) (hs : 20 ≤ 4 * (f % 16)) (hp9 : pl < 32768) (hl9 : ln < 4 * (f % 16)) : Calls Try.prog 119 #[.slice A n c] w (RetV w (.tuple #[.agg (h4C 0 0 0 false false 0 0 0 0 false 0 0 false 0 0 none 0 0).toArray, .int .i64 0, .int .i64 21])) := by
  obtain ⟨du, u1, u2⟩ := rowH4
  have hc := h.2.1
  have hl := h.1
  have h20n : (20 : Int) ≤ (n : Int) := by omega
  have h20c : (20 : Int) ≤ (c : Int) := by omega
  have d20 : decide ((n : Int) < 20) = false := by simp only [decide_eq_false_iff_not]; omega
  have ht20 : Rb w A 20 c (l.take 20) := h.take (by omega)
  have hf8 : f < 256 := by rw [← x0]; exact num_lt' l 0 1 256 (by decide)
  have hpl : pl < 65536 := by rw [← x4]; exact num_lt' l 6 2 65536 (by decide)
  have hln : ln < 65536 := by rw [← x2]; exact num_lt' l 2 2 65536 (by decide)
  replace x0 : Hid (num (((l.take 20).drop 0).take 1) = f) := Lib.hid (by rw [num_in l 20 0 1 (by decide)]; exact x0)
  replace x1 : Hid (num (((l.take 20).drop 1).take 1) = ts) := Lib.hid (by rw [num_in l 20 1 1 (by decide)]; exact x1)
  replace x2 : Hid (num (((l.take 20).drop 2).take 2) = ln) := Lib.hid (by rw [num_in l 20 2 2 (by decide)]; exact x2)
  replace x3 : Hid (num (((l.take 20).drop 4).take 2) = id) := Lib.hid (by rw [num_in l 20 4 2 (by decide)]; exact x3)
  replace x4 : Hid (num (((l.take 20).drop 6).take 2) = pl) := Lib.hid (by rw [num_in l 20 6 2 (by decide)]; exact x4)
  have hB : (l.take 20).length = 20 := by rw [List.length_take]; omega
  have HR := Lib.hid (fun W (h : Rb W A 20 c (l.take 20)) => readK A 20 c (l.take 20) W h (by decide))
  generalize l.take 20 = B at *
  have hB1 : B.length ≤ 20 := by omega
  have hB2 : 20 ≤ B.length := by omega
  clear hB
  obtain ⟨m, hm⟩ : ∃ m : Nat, m = f % 16 := ⟨_, rfl⟩
  have e1 := u8_and15 f hf8
  rw [← hm] at e1
  obtain ⟨sz, hsz⟩ : ∃ s : Nat, s = 4 * m := ⟨_, rfl⟩
  have e2 : IntKind.i64.wrap (4 * (m : Int)) = (sz : Int) := by rw [IntWalk.i64_in _ (by omega)]; omega
  have e3 : IntKind.i64.wrap (m : Int) = (m : Int) := IntWalk.i64_in _ (by omega)
  have e4 : IntKind.i64.wrap (ln : Int) = (ln : Int) := IntWalk.i64_in _ (by omega)
  have hb1 : (f : Int) / 16 = 4 := by omega
  have hb1n : ((f : Int) / 16 != 4) = false := by rw [hb1]; rfl
  have qd4 : decide ((sz : Int) < 20) = false := by simp only [decide_eq_false_iff_not]; omega
  have qd5 : decide (sz < 20) = false := by simp only [decide_eq_false_iff_not]; omega
  have hp0 : pl / 32768 % 2 = 0 := by omega
  have hp : bits .and .u16 (pl : Int) 32768 = 0 := by rw [and15 pl hpl, hp0]; rfl
  clear hp0
  have qd6 : decide ((ln : Int) < (sz : Int)) = true := by simp only [decide_eq_true_eq]; omega
  have qd7 : decide (ln < sz) = true := by simp only [decide_eq_true_eq]; omega
  clear hb1
  clear hm hsz
  have b2 : Bk (w.alloc (.cells #[.int .u8 0, .int .i64 0, .int .u16 0, .bool false, .bool false, .int .i64 0, .int .u8 0, .int .u8 0, .int .u16 0, .bool false, .int .u64 0, .int .u64 0, .bool false, .int .u64 0, .int .u64 0, .slice none 0 0] 77)) w.heap.size 77 (h4C 0 0 0 false false 0 0 0 0 false 0 0 false 0 0 none 0 0) := Bk.new w 77 #[.int .u8 0, .int .i64 0, .int .u16 0, .bool false, .bool false, .int .i64 0, .int .u8 0, .int .u8 0, .int .u16 0, .bool false, .int .u64 0, .int .u64 0, .bool false, .int .u64 0, .int .u64 0, .slice none 0 0]
  have be : Below w.heap.size w (w.alloc (.cells #[.int .u8 0, .int .i64 0, .int .u16 0, .bool false, .bool false, .int .i64 0, .int .u8 0, .int .u8 0, .int .u16 0, .bool false, .int .u64 0, .int .u64 0, .bool false, .int .u64 0, .int .u64 0, .slice none 0 0] 77)) := Below.allocS (Below.refl _ _) _
  go_enter Try.func119, Try.ntmps119
  go_wp2_with fail
  refine (HR.out _ (ht20.alloc _)).mono ?_
  rintro e w1 ⟨r, bs1, d1, rfl, rfl, hr1, hR⟩
  replace b2 := b2.later (below_plus _ bs1 d1)
  replace be := belowP be bs1 d1
  have hr2 : w.heap.size < r := by simp at hr1; omega
  generalize plus (w.alloc (.cells #[.int .u8 0, .int .i64 0, .int .u16 0, .bool false, .bool false, .int .i64 0, .int .u8 0, .int .u8 0, .int .u16 0, .bool false, .int .u64 0, .int .u64 0, .bool false, .int .u64 0, .int .u64 0, .slice none 0 0] 77)) bs1 d1 = W0 at *
  clear hr1
  go_wp2_with fail
  refine (byteG W0 r B 0 f hR (by omega) (by omega) x0.out).mono ?_
  clear x0
  rintro e W1 ⟨rfl, hR1, hg⟩
  replace b2 := b2.grown hg (by simp; omega)
  replace be := below_grown be hg (by omega)
  clear hR hg
  have hR := hR1
  clear hR1
  go_wp2_with fail
  refine (byteG W1 r B 1 ts hR (by omega) (by omega) x1.out).mono ?_
  clear x1
  rintro e W2 ⟨rfl, hR1, hg⟩
  replace b2 := b2.grown hg (by simp; omega)
  replace be := below_grown be hg (by omega)
  clear hR hg
  have hR := hR1
  clear hR1
  go_wp2_with fail
  refine (wordG W2 r B 2 ln hR (by omega) (by omega) x2.out).mono ?_
  clear x2
  rintro e W3 ⟨rfl, hR1, hg⟩
  replace b2 := b2.grown hg (by simp; omega)
  replace be := below_grown be hg (by omega)
  clear hR hg
  have hR := hR1
  clear hR1
  go_wp2_with fail
  refine (wordG W3 r B 4 id hR (by omega) (by omega) x3.out).mono ?_
  clear x3
  rintro e W4 ⟨rfl, hR1, hg⟩
  replace b2 := b2.grown hg (by simp; omega)
  replace be := below_grown be hg (by omega)
  clear hR hg
  have hR := hR1
  clear hR1
  have zr := hR.lt
  go_wp2_with fail
  have b8 : Bk (W4.alloc (.cells #[.int .u8 (ts : Int), .int .i64 (ln : Int), .int .u16 (id : Int), .bool false, .bool false, .int .i64 0, .int .u8 0, .int .u8 0, .int .u16 0, .bool false, .int .u64 0, .int .u64 0, .bool false, .int .u64 0, .int .u64 0, .slice none 0 0] 77)) W4.heap.size 77 [.int .u8 (ts : Int), .int .i64 (ln : Int), .int .u16 (id : Int), .bool false, .bool false, .int .i64 0, .int .u8 0, .int .u8 0, .int .u16 0, .bool false, .int .u64 0, .int .u64 0, .bool false, .int .u64 0, .int .u64 0, .slice none 0 0] := Bk.new W4 77 #[.int .u8 (ts : Int), .int .i64 (ln : Int), .int .u16 (id : Int), .bool false, .bool false, .int .i64 0, .int .u8 0, .int .u8 0, .int .u16 0, .bool false, .int .u64 0, .int .u64 0, .bool false, .int .u64 0, .int .u64 0, .slice none 0 0]
  replace b2 := b2.alloc (.cells #[.int .u8 (ts : Int), .int .i64 (ln : Int), .int .u16 (id : Int), .bool false, .bool false, .int .i64 0, .int .u8 0, .int .u8 0, .int .u16 0, .bool false, .int .u64 0, .int .u64 0, .bool false, .int .u64 0, .int .u64 0, .slice none 0 0] 77)
  replace be := Below.allocS be (.cells #[.int .u8 (ts : Int), .int .i64 (ln : Int), .int .u16 (id : Int), .bool false, .bool false, .int .i64 0, .int .u8 0, .int .u8 0, .int .u16 0, .bool false, .int .u64 0, .int .u64 0, .bool false, .int .u64 0, .int .u64 0, .slice none 0 0] 77)
  replace hR := hR.later ((Below.refl _ _).alloc (Nat.le_refl _) (.cells #[.int .u8 (ts : Int), .int .i64 (ln : Int), .int .u16 (id : Int), .bool false, .bool false, .int .i64 0, .int .u8 0, .int .u8 0, .int .u16 0, .bool false, .int .u64 0, .int .u64 0, .bool false, .int .u64 0, .int .u64 0, .slice none 0 0] 77))
  have zb := be.size
  generalize W4.alloc (.cells #[.int .u8 (ts : Int), .int .i64 (ln : Int), .int .u16 (id : Int), .bool false, .bool false, .int .i64 0, .int .u8 0, .int .u8 0, .int .u16 0, .bool false, .int .u64 0, .int .u64 0, .bool false, .int .u64 0, .int .u64 0, .slice none 0 0] 77) = V0 at *
  have zg : w.heap.size < W4.heap.size := by omega
  generalize W4.heap.size = g8 at *
  refine (wordG V0 r B 6 pl hR (by omega) (by omega) x4.out).mono ?_
  clear x4
  rintro e W5 ⟨rfl, hR1, hg⟩
  replace b2 := b2.grown hg (by simp; omega)
  replace b8 := b8.grown hg (by simp; omega)
  replace be := below_grown be hg (by omega)
  clear hR hg
  have hR := hR1
  clear hR1
  have y1 : W5.cell? ⟨g8, 1, none⟩ = some (.int .i64 (ln : Int)) := b8.cell 1
  have z8 := b8.lt
  clear zb
  go_wp2_with (refine at_op (.store 77 (.tmp 2) (.tmp 51)) rfl ?_; refine wpList_stA (t := 77) 77 (.tmp 2) (.tmp 51) rfl rfl (h4C 0 0 0 false false 0 0 0 0 false 0 0 false 0 0 none 0 0) (h4C 0 0 0 false false 0 0 0 0 false 0 0 false 0 0 none 0 0) rfl (h4C_one _ _ _ _ _ _ _ _ _ _ _ _ _ _ _ _ _ _) rfl rfl b2 (szH4 _ _ _ _ _ _ _ _ _ _ _ _ _ _ _ _ _ _) ?_; intro W9 h9 g9)
  refine bodyPost_agg3 Try.results119 rfl rfl rfl h9.range u1 u2 (szH4 _ _ _ _ _ _ _ _ _ _ _ _ _ _ _ _ _ _) rfl (RetV.mk ?_)
  exact below_grown be g9 (by omega)
end Go.Proofs.Ytldecdeiibfekaa
